/- Associations: what the reference's Receive computes where it accepts; all outcomes in one sentence. -/
import Derived.Test.YtickoncgnjgciaaAsH
namespace Go.Proofs.Ytickoncgnjgciaa
open Go.RowKit
set_option linter.unusedSimpArgs false
set_option linter.unusedVariables false
set_option maxRecDepth 100000 in
set_option maxHeartbeats 8000000 in
theorem rrec_acc4 (g : Nat) (ver t1 nc : Int) (sn : Bool) (lx c0 c1 c2 c3 c4 c5 c6 c7 now l v m st po pr rd rp id ref org rec xmt : Int) (co : ByteArray) (qa qb qd qe : Int) (w : World) (H : Blk w g 59 (raL ver sn true t1 nc lx c0 c1 c2 c3 c4 c5 c6 c7)) (hc : CB c4) (hI : nc = 0 → t1 = 0) (hsn : sn = !decide (nc = 0)) (hb : badB (nchk l v m st po pr) m now nc t1 = false) (ho : org = nc) (hx : xmt = 0 ∨ xmt ≠ lx)
    (hAC : ∀ W, Blk W g 59 (raL ver sn true t1 nc lx c0 c1 c2 c3 c4 c5 c6 c7) → Calls Try.prog 30 #[.pointer (some ⟨g, 0, none⟩), ntp l v m st po pr rd rp id ref org rec xmt, .int .i64 now] W fun e w' => e = .returned (.agg (hdL 4 co qa qb qd qe).toArray) ∧ Below W.heap.size W w') :
    Calls Try.prog 15 #[.pointer (some ⟨g, 0, none⟩), ntp l v m st po pr rd rp id ref org rec xmt, .int .i64 now] w fun e w' => e = .returned (.agg (hdL 4 co qa qb qd qe).toArray) ∧ Blk w' g 59 (raL ver sn false t1 nc xmt c0 c1 c2 c3 (c4 + 1) c5 c6 c7) ∧ But g w w' := by
  have hr := fun W => rin_any now W
  have hC := fun W => rnchk_any l v m st po pr rd rp id ref org rec xmt W
  have hlt := H.lt
  have hcw : IntKind.i64.wrap (c4 + 1) = c4 + 1 := by rw [IntKind.wrap_i64]; omega
  obtain ⟨K, hK⟩ : ∃ K, K = nchk l v m st po pr := ⟨_, rfl⟩
  rw [← hK] at hb hC
  clear hK
  obtain ⟨hK0', hm4', h3, h4⟩ := rgood hI hsn hb
  simp only [h3] at hr
  clear hb hI hsn h3
  have ho' : (org != nc) = false := by simpa using ho
  clear ho
  by_cases hx0 : xmt = 0
  · have hx' : (xmt != 0) = false := by simpa using hx0
    clear hx hx0
    rcases h4 with rfl | ⟨rfl, h6⟩
    · skip
      go_enter Try.func15, Try.ntmps15
      go_wp2_with (first
        | (refine wpl_alloc (by rfl) 40 (by rfl) (.agg (zH).toArray) (zH) zeroHeard rfl ?_; intro w3 L3 s3 b3; (have H3 := H2.below b3 (by omega)); (have J3 := J2.below b3 (by omega)); (have P3 := P2.below b3 (by omega)))
        | ((refine wpl_box (by rfl) 31 _ (by rfl) _ ([.int .i64 l, .int .i64 v, .int .i64 m, .int .i64 st, .int .i64 po, .int .i64 pr, .int .u32 rd, .int .u32 rp, .int .u32 id, .int .u64 ref, .int .u64 org, .int .u64 rec, .int .u64 xmt]) (by rfl) rfl ?_; intro w1 P1 s1 b1); (have H1 := H.below b1 hlt))
        | ((refine wpl_alloc (by rfl) 40 (by rfl) (.agg (zH).toArray) (zH) zeroHeard rfl ?_; intro w2 J2 s2 b2); (have H2 := H1.below b2 (by omega)); (have P2 := P1.below b2 (by omega)))
        | ((refine wpl_store (by rfl) 40 _ _ (by rfl) w2.heap.size (by rfl) _ (by rfl) _ rfl 40 _ L3 (by rfl) _ sizeHeard (by rfl) (by simp [Value.oneCell']) ?_; intro w4 L4 s4 g4); (have H4 := H3.but g4 (by omega)); (have J4 := J3.but g4 (by omega)); (have P4 := P3.but g4 (by omega)))
        | (refine wpl_load (by rfl) 31 _ (by rfl) w.heap.size (by rfl) 31 _ P4 _ Try.underlying31 rfl _ sizeNtp (by rfl) ?_)
        | (go_at_call 29; ((with_reducible refine (hC _).mono ?_); rintro e w5 ⟨rfl, b5⟩; (have H5 := H4.below b5 (by omega)); (have P5 := P4.below b5 (by omega)); (have J5 := J4.below b5 (by omega)); (have L5 := L4.below b5 (by omega)); (have z5 := b5.size)))
        | (go_at_call 26; ((with_reducible refine (hr _).mono ?_); rintro e w1 ⟨rfl, rfl⟩))
        | (refine wpl_loadf (by rfl) 3 _ (by rfl) w.heap.size 2 (by rfl) _ _ P5 _ rfl _ Try.underlying3 rfl ?_) | (refine wpl_loadf (by rfl) 4 _ (by rfl) g 1 (by rfl) _ _ H5 _ rfl _ Try.underlying4 rfl ?_) | (refine wpl_loadf (by rfl) 3 _ (by rfl) g 3 (by rfl) _ _ H5 _ rfl _ Try.underlying3 rfl ?_) | (refine wpl_loadf (by rfl) 4 _ (by rfl) g 2 (by rfl) _ _ H5 _ rfl _ Try.underlying4 rfl ?_)
        )
      have G5 : But g w w5 := ((((But.of_below b1 (Nat.le_refl _)).then b2 (by omega)).then b3 (by omega)).new g4 (by omega)).then b5 (by omega)
      clear P1 J2 H1 H2 P2 H3 J3 L3 P3 H4 J4 P4 L4 b1 b2 b3 g4 b5
      have q1 := P5.cell (i := 10) rfl
      have q2 := H5.cell (i := 4) rfl
      go_region_held3 (fun w' => w'.cell? ⟨w.heap.size, 10, none⟩ = some (.int .u64 org) ∧ w'.cell? ⟨g, 4, none⟩ = some (.int .u64 nc)) (exact ⟨q1, q2⟩) (fail)
      clear q1 q2
      have H5' := H5.drew
      have P5' := P5.drew
      have J5' := J5.drew
      have L5' := L5.drew
      have G5' : But g w w5.drew := ⟨G5.os, G5.tape, G5.output, G5.size, G5.block⟩
      have z5' : w4.heap.size ≤ w5.drew.heap.size := z5
      clear H5 P5 J5 L5 G5 z5
      generalize w5.drew = w5' at H5' P5' J5' L5' G5' z5' ⊢
      rename_i w5old
      have H5 := H5'
      have P5 := P5'
      have J5 := J5'
      have L5 := L5'
      have G5 := G5'
      have z5 := z5'
      clear H5' P5' J5' L5' G5' z5'
      go_wp2_with fail
      have q1 := P5.cell (i := 12) rfl
      have q2 := H5.cell (i := 5) rfl
      go_quiet (fail)
      have H5' := H5.drewN nq
      have P5' := P5.drewN nq
      have J5' := J5.drewN nq
      have L5' := L5.drewN nq
      have G5' : But g w (w5'.drewN nq) := G5.then (below_drewN (Below.refl w.heap.size w5') nq) (Nat.le_refl _)
      have z5' : w4.heap.size ≤ (w5'.drewN nq).heap.size := z5
      clear H5 P5 J5 L5 G5 z5
      generalize w5'.drewN nq = w5'' at H5' P5' J5' L5' G5' z5' ⊢
      have H5 := H5'
      have P5 := P5'
      have J5 := J5'
      have L5 := L5'
      have G5 := G5'
      have z5 := z5'
      clear H5' P5' J5' L5' G5' z5'
      clear q1 q2
      have hHE := fun W HW => hAC W HW
      go_wp2_with (first
        | (refine wpl_load (by rfl) 31 _ (by rfl) w.heap.size (by rfl) 31 _ P5 _ Try.underlying31 rfl _ sizeNtp (by rfl) ?_)
        | (go_at_call 30; ((with_reducible refine (hAC _ H5).mono ?_); rintro e x5 ⟨rfl, y5⟩; (have H8 := H5.below y5 (by omega)); (have P8 := P5.below y5 (by omega)); (have J8 := J5.below y5 (by omega)); (have L8 := L5.below y5 (by omega)); (have z8 := y5.size)))
        | ((refine wpl_store (by rfl) 40 _ _ (by rfl) w2.heap.size (by rfl) _ (by rfl) _ rfl 40 _ L8 (by rfl) _ sizeHeard (by rfl) (by simp [Value.oneCell']) ?_; intro x9 L9 s9 g9); (have H9 := H8.but g9 (by omega)); (have J9 := J8.but g9 (by omega)); (have P9 := P8.but g9 (by omega)))
        | ((refine wpl_storeg (by rfl) 4 _ _ (by rfl) g 2 (by rfl) (.bool false) (by rfl) (by rfl) (by simp [Value.oneCell']) _ _ (raL ver false false t1 nc lx c0 c1 c2 c3 c4 c5 c6 c7) H9 (by simp) sizeBool (by rfl) ?_; intro x10 H10 s10 g10); (have J10 := J9.but g10 (by omega)); (have P10 := P9.but g10 (by omega)); (have L10 := L9.but g10 (by omega)))
        | (refine wpl_loadf (by rfl) 28 _ (by rfl) w.heap.size 12 (by rfl) _ _ P10 _ rfl _ Try.underlying28 rfl ?_)
        | ((refine wpl_storeg (by rfl) 28 _ _ (by rfl) g 5 (by rfl) (.int .u64 xmt) (by rfl) (by rfl) (by simp [Value.oneCell']) _ _ (raL ver false false t1 nc xmt c0 c1 c2 c3 c4 c5 c6 c7) H10 (by simp) sizeU64 (by rfl) ?_; intro w6 H6 s6 g6); (have J6 := J10.but g6 (by omega)); (have L6 := L10.but g6 (by omega))))
      have G6 : But g w w6 := (((G5.then y5 (by omega)).new g9 (by omega)).trans g10).trans g6
      clear H5 L5 J5 P5 G5 g6 H8 P8 J8 L8 H9 J9 P9 L9 H10 J10 P10 L10 g9 g10 y5 hAC hHE
      have q1 := L6.cell (i := 0) rfl
      have q2 := H6.cell (i := 10) rfl
      have q3 := H6.frozen
      have B7 : But g w (w6.setCell ⟨g, 10, none⟩ (.int .i64 (c4 + 1))).drew := But.trans G6 ⟨rfl, rfl, rfl, by simp [World.setCell, World.drew], fun k _ hk => Below.heap_setCell _ _ _ _ (fun e => hk (by rw [e]))⟩
      have H7 : Blk (w6.setCell ⟨g, 10, none⟩ (.int .i64 (c4 + 1))).drew g 59 (raL ver false false t1 nc xmt c0 c1 c2 c3 (c4 + 1) c5 c6 c7) := (H6.set 10 (.int .i64 (c4 + 1))).drew
      have L7 : Blk (w6.setCell ⟨g, 10, none⟩ (.int .i64 (c4 + 1))).drew w2.heap.size 40 (hdL 4 co qa qb qd qe) := (L6.but (but_setCell w6 g 10 _) (by omega)).drew
      have J7 : Blk (w6.setCell ⟨g, 10, none⟩ (.int .i64 (c4 + 1))).drew w1.heap.size 40 zH := (J6.but (but_setCell w6 g 10 _) (by omega)).drew
      clear H6 L6 J6 G6
      go_region
      all_goals
        generalize (w6.setCell ⟨g, 10, none⟩ (.int .i64 (c4 + 1))).drew = w7 at H7 L7 J7 B7 ⊢
        clear q1 q2 q3
        go_wp2_with (first
          | (refine wpl_load (by rfl) 40 _ (by rfl) w2.heap.size (by rfl) 40 _ L7 _ Try.underlying40 rfl _ sizeHeard (by rfl) ?_)
          | (refine wpl_store (by rfl) 40 _ _ (by rfl) w1.heap.size (by rfl) _ (by rfl) _ rfl 40 _ J7 (by rfl) _ sizeHeard (by rfl) (by simp [Value.oneCell']) ?_; intro w8 J8 s8 g8))
        obtain ⟨k0, k1, k2, k3, k4, k5⟩ := cells6 J8
        refine bodyPost_ret (v := .agg (hdL 4 co qa qb qd qe).toArray) (by simp [results, Try.results15, go_sem, k0, k1, k2, k3, k4, k5]) rfl ?_
        exact ⟨rfl, H7.but g8 (by omega), B7.new g8 (by omega)⟩
    · skip
      go_enter Try.func15, Try.ntmps15
      go_wp2_with (first
        | (refine wpl_alloc (by rfl) 40 (by rfl) (.agg (zH).toArray) (zH) zeroHeard rfl ?_; intro w3 L3 s3 b3; (have H3 := H2.below b3 (by omega)); (have J3 := J2.below b3 (by omega)); (have P3 := P2.below b3 (by omega)))
        | ((refine wpl_box (by rfl) 31 _ (by rfl) _ ([.int .i64 l, .int .i64 v, .int .i64 m, .int .i64 st, .int .i64 po, .int .i64 pr, .int .u32 rd, .int .u32 rp, .int .u32 id, .int .u64 ref, .int .u64 org, .int .u64 rec, .int .u64 xmt]) (by rfl) rfl ?_; intro w1 P1 s1 b1); (have H1 := H.below b1 hlt))
        | ((refine wpl_alloc (by rfl) 40 (by rfl) (.agg (zH).toArray) (zH) zeroHeard rfl ?_; intro w2 J2 s2 b2); (have H2 := H1.below b2 (by omega)); (have P2 := P1.below b2 (by omega)))
        | ((refine wpl_store (by rfl) 40 _ _ (by rfl) w2.heap.size (by rfl) _ (by rfl) _ rfl 40 _ L3 (by rfl) _ sizeHeard (by rfl) (by simp [Value.oneCell']) ?_; intro w4 L4 s4 g4); (have H4 := H3.but g4 (by omega)); (have J4 := J3.but g4 (by omega)); (have P4 := P3.but g4 (by omega)))
        | (refine wpl_load (by rfl) 31 _ (by rfl) w.heap.size (by rfl) 31 _ P4 _ Try.underlying31 rfl _ sizeNtp (by rfl) ?_)
        | (go_at_call 29; ((with_reducible refine (hC _).mono ?_); rintro e w5 ⟨rfl, b5⟩; (have H5 := H4.below b5 (by omega)); (have P5 := P4.below b5 (by omega)); (have J5 := J4.below b5 (by omega)); (have L5 := L4.below b5 (by omega)); (have z5 := b5.size)))
        | (go_at_call 26; ((with_reducible refine (hr _).mono ?_); rintro e w1 ⟨rfl, rfl⟩))
        | (refine wpl_loadf (by rfl) 3 _ (by rfl) w.heap.size 2 (by rfl) _ _ P5 _ rfl _ Try.underlying3 rfl ?_) | (refine wpl_loadf (by rfl) 4 _ (by rfl) g 1 (by rfl) _ _ H5 _ rfl _ Try.underlying4 rfl ?_) | (refine wpl_loadf (by rfl) 3 _ (by rfl) g 3 (by rfl) _ _ H5 _ rfl _ Try.underlying3 rfl ?_) | (refine wpl_loadf (by rfl) 4 _ (by rfl) g 2 (by rfl) _ _ H5 _ rfl _ Try.underlying4 rfl ?_)
        )
      have G5 : But g w w5 := ((((But.of_below b1 (Nat.le_refl _)).then b2 (by omega)).then b3 (by omega)).new g4 (by omega)).then b5 (by omega)
      clear P1 J2 H1 H2 P2 H3 J3 L3 P3 H4 J4 P4 L4 b1 b2 b3 g4 b5
      have q1 := P5.cell (i := 10) rfl
      have q2 := H5.cell (i := 4) rfl
      go_region_held3 (fun w' => w'.cell? ⟨w.heap.size, 10, none⟩ = some (.int .u64 org) ∧ w'.cell? ⟨g, 4, none⟩ = some (.int .u64 nc)) (exact ⟨q1, q2⟩) (fail)
      clear q1 q2
      have H5' := H5.drew
      have P5' := P5.drew
      have J5' := J5.drew
      have L5' := L5.drew
      have G5' : But g w w5.drew := ⟨G5.os, G5.tape, G5.output, G5.size, G5.block⟩
      have z5' : w4.heap.size ≤ w5.drew.heap.size := z5
      clear H5 P5 J5 L5 G5 z5
      generalize w5.drew = w5' at H5' P5' J5' L5' G5' z5' ⊢
      rename_i w5old
      have H5 := H5'
      have P5 := P5'
      have J5 := J5'
      have L5 := L5'
      have G5 := G5'
      have z5 := z5'
      clear H5' P5' J5' L5' G5' z5'
      go_wp2_with fail
      have q1 := P5.cell (i := 12) rfl
      have q2 := H5.cell (i := 5) rfl
      go_quiet (fail)
      have H5' := H5.drewN nq
      have P5' := P5.drewN nq
      have J5' := J5.drewN nq
      have L5' := L5.drewN nq
      have G5' : But g w (w5'.drewN nq) := G5.then (below_drewN (Below.refl w.heap.size w5') nq) (Nat.le_refl _)
      have z5' : w4.heap.size ≤ (w5'.drewN nq).heap.size := z5
      clear H5 P5 J5 L5 G5 z5
      generalize w5'.drewN nq = w5'' at H5' P5' J5' L5' G5' z5' ⊢
      have H5 := H5'
      have P5 := P5'
      have J5 := J5'
      have L5 := L5'
      have G5 := G5'
      have z5 := z5'
      clear H5' P5' J5' L5' G5' z5'
      clear q1 q2
      have hHE := fun W HW => hAC W HW
      go_wp2_with (first
        | (refine wpl_load (by rfl) 31 _ (by rfl) w.heap.size (by rfl) 31 _ P5 _ Try.underlying31 rfl _ sizeNtp (by rfl) ?_)
        | (go_at_call 30; ((with_reducible refine (hAC _ H5).mono ?_); rintro e x5 ⟨rfl, y5⟩; (have H8 := H5.below y5 (by omega)); (have P8 := P5.below y5 (by omega)); (have J8 := J5.below y5 (by omega)); (have L8 := L5.below y5 (by omega)); (have z8 := y5.size)))
        | ((refine wpl_store (by rfl) 40 _ _ (by rfl) w2.heap.size (by rfl) _ (by rfl) _ rfl 40 _ L8 (by rfl) _ sizeHeard (by rfl) (by simp [Value.oneCell']) ?_; intro x9 L9 s9 g9); (have H9 := H8.but g9 (by omega)); (have J9 := J8.but g9 (by omega)); (have P9 := P8.but g9 (by omega)))
        | ((refine wpl_storeg (by rfl) 4 _ _ (by rfl) g 2 (by rfl) (.bool false) (by rfl) (by rfl) (by simp [Value.oneCell']) _ _ (raL ver true false t1 nc lx c0 c1 c2 c3 c4 c5 c6 c7) H9 (by simp) sizeBool (by rfl) ?_; intro x10 H10 s10 g10); (have J10 := J9.but g10 (by omega)); (have P10 := P9.but g10 (by omega)); (have L10 := L9.but g10 (by omega)))
        | (refine wpl_loadf (by rfl) 28 _ (by rfl) w.heap.size 12 (by rfl) _ _ P10 _ rfl _ Try.underlying28 rfl ?_)
        | ((refine wpl_storeg (by rfl) 28 _ _ (by rfl) g 5 (by rfl) (.int .u64 xmt) (by rfl) (by rfl) (by simp [Value.oneCell']) _ _ (raL ver true false t1 nc xmt c0 c1 c2 c3 c4 c5 c6 c7) H10 (by simp) sizeU64 (by rfl) ?_; intro w6 H6 s6 g6); (have J6 := J10.but g6 (by omega)); (have L6 := L10.but g6 (by omega))))
      have G6 : But g w w6 := (((G5.then y5 (by omega)).new g9 (by omega)).trans g10).trans g6
      clear H5 L5 J5 P5 G5 g6 H8 P8 J8 L8 H9 J9 P9 L9 H10 J10 P10 L10 g9 g10 y5 hAC hHE
      have q1 := L6.cell (i := 0) rfl
      have q2 := H6.cell (i := 10) rfl
      have q3 := H6.frozen
      have B7 : But g w (w6.setCell ⟨g, 10, none⟩ (.int .i64 (c4 + 1))).drew := But.trans G6 ⟨rfl, rfl, rfl, by simp [World.setCell, World.drew], fun k _ hk => Below.heap_setCell _ _ _ _ (fun e => hk (by rw [e]))⟩
      have H7 : Blk (w6.setCell ⟨g, 10, none⟩ (.int .i64 (c4 + 1))).drew g 59 (raL ver true false t1 nc xmt c0 c1 c2 c3 (c4 + 1) c5 c6 c7) := (H6.set 10 (.int .i64 (c4 + 1))).drew
      have L7 : Blk (w6.setCell ⟨g, 10, none⟩ (.int .i64 (c4 + 1))).drew w2.heap.size 40 (hdL 4 co qa qb qd qe) := (L6.but (but_setCell w6 g 10 _) (by omega)).drew
      have J7 : Blk (w6.setCell ⟨g, 10, none⟩ (.int .i64 (c4 + 1))).drew w1.heap.size 40 zH := (J6.but (but_setCell w6 g 10 _) (by omega)).drew
      clear H6 L6 J6 G6
      go_region
      all_goals
        generalize (w6.setCell ⟨g, 10, none⟩ (.int .i64 (c4 + 1))).drew = w7 at H7 L7 J7 B7 ⊢
        clear q1 q2 q3
        go_wp2_with (first
          | (refine wpl_load (by rfl) 40 _ (by rfl) w2.heap.size (by rfl) 40 _ L7 _ Try.underlying40 rfl _ sizeHeard (by rfl) ?_)
          | (refine wpl_store (by rfl) 40 _ _ (by rfl) w1.heap.size (by rfl) _ (by rfl) _ rfl 40 _ J7 (by rfl) _ sizeHeard (by rfl) (by simp [Value.oneCell']) ?_; intro w8 J8 s8 g8))
        obtain ⟨k0, k1, k2, k3, k4, k5⟩ := cells6 J8
        refine bodyPost_ret (v := .agg (hdL 4 co qa qb qd qe).toArray) (by simp [results, Try.results15, go_sem, k0, k1, k2, k3, k4, k5]) rfl ?_
        exact ⟨rfl, H7.but g8 (by omega), B7.new g8 (by omega)⟩
  · have hx' : (xmt != 0) = true := by simpa using hx0
    have hl' : (xmt == lx) = false := by simp; omega
    clear hx hx0
    rcases h4 with rfl | ⟨rfl, h6⟩
    · skip
      go_enter Try.func15, Try.ntmps15
      go_wp2_with (first
        | (refine wpl_alloc (by rfl) 40 (by rfl) (.agg (zH).toArray) (zH) zeroHeard rfl ?_; intro w3 L3 s3 b3; (have H3 := H2.below b3 (by omega)); (have J3 := J2.below b3 (by omega)); (have P3 := P2.below b3 (by omega)))
        | ((refine wpl_box (by rfl) 31 _ (by rfl) _ ([.int .i64 l, .int .i64 v, .int .i64 m, .int .i64 st, .int .i64 po, .int .i64 pr, .int .u32 rd, .int .u32 rp, .int .u32 id, .int .u64 ref, .int .u64 org, .int .u64 rec, .int .u64 xmt]) (by rfl) rfl ?_; intro w1 P1 s1 b1); (have H1 := H.below b1 hlt))
        | ((refine wpl_alloc (by rfl) 40 (by rfl) (.agg (zH).toArray) (zH) zeroHeard rfl ?_; intro w2 J2 s2 b2); (have H2 := H1.below b2 (by omega)); (have P2 := P1.below b2 (by omega)))
        | ((refine wpl_store (by rfl) 40 _ _ (by rfl) w2.heap.size (by rfl) _ (by rfl) _ rfl 40 _ L3 (by rfl) _ sizeHeard (by rfl) (by simp [Value.oneCell']) ?_; intro w4 L4 s4 g4); (have H4 := H3.but g4 (by omega)); (have J4 := J3.but g4 (by omega)); (have P4 := P3.but g4 (by omega)))
        | (refine wpl_load (by rfl) 31 _ (by rfl) w.heap.size (by rfl) 31 _ P4 _ Try.underlying31 rfl _ sizeNtp (by rfl) ?_)
        | (go_at_call 29; ((with_reducible refine (hC _).mono ?_); rintro e w5 ⟨rfl, b5⟩; (have H5 := H4.below b5 (by omega)); (have P5 := P4.below b5 (by omega)); (have J5 := J4.below b5 (by omega)); (have L5 := L4.below b5 (by omega)); (have z5 := b5.size)))
        | (go_at_call 26; ((with_reducible refine (hr _).mono ?_); rintro e w1 ⟨rfl, rfl⟩))
        | (refine wpl_loadf (by rfl) 3 _ (by rfl) w.heap.size 2 (by rfl) _ _ P5 _ rfl _ Try.underlying3 rfl ?_) | (refine wpl_loadf (by rfl) 4 _ (by rfl) g 1 (by rfl) _ _ H5 _ rfl _ Try.underlying4 rfl ?_) | (refine wpl_loadf (by rfl) 3 _ (by rfl) g 3 (by rfl) _ _ H5 _ rfl _ Try.underlying3 rfl ?_) | (refine wpl_loadf (by rfl) 4 _ (by rfl) g 2 (by rfl) _ _ H5 _ rfl _ Try.underlying4 rfl ?_)
        )
      have G5 : But g w w5 := ((((But.of_below b1 (Nat.le_refl _)).then b2 (by omega)).then b3 (by omega)).new g4 (by omega)).then b5 (by omega)
      clear P1 J2 H1 H2 P2 H3 J3 L3 P3 H4 J4 P4 L4 b1 b2 b3 g4 b5
      have q1 := P5.cell (i := 10) rfl
      have q2 := H5.cell (i := 4) rfl
      go_region_held3 (fun w' => w'.cell? ⟨w.heap.size, 10, none⟩ = some (.int .u64 org) ∧ w'.cell? ⟨g, 4, none⟩ = some (.int .u64 nc)) (exact ⟨q1, q2⟩) (fail)
      clear q1 q2
      have H5' := H5.drew
      have P5' := P5.drew
      have J5' := J5.drew
      have L5' := L5.drew
      have G5' : But g w w5.drew := ⟨G5.os, G5.tape, G5.output, G5.size, G5.block⟩
      have z5' : w4.heap.size ≤ w5.drew.heap.size := z5
      clear H5 P5 J5 L5 G5 z5
      generalize w5.drew = w5' at H5' P5' J5' L5' G5' z5' ⊢
      rename_i w5old
      have H5 := H5'
      have P5 := P5'
      have J5 := J5'
      have L5 := L5'
      have G5 := G5'
      have z5 := z5'
      clear H5' P5' J5' L5' G5' z5'
      go_wp2_with fail
      have q1 := P5.cell (i := 12) rfl
      have q2 := H5.cell (i := 5) rfl
      go_region_held3 (fun w' => w'.cell? ⟨w.heap.size, 12, none⟩ = some (.int .u64 xmt) ∧ w'.cell? ⟨g, 5, none⟩ = some (.int .u64 lx)) (exact ⟨q1, q2⟩) (fail)
      have H5' := H5.drew
      have P5' := P5.drew
      have J5' := J5.drew
      have L5' := L5.drew
      have G5' : But g w w5'.drew := ⟨G5.os, G5.tape, G5.output, G5.size, G5.block⟩
      have z5' : w4.heap.size ≤ w5'.drew.heap.size := z5
      clear H5 P5 J5 L5 G5 z5
      generalize w5'.drew = w5'' at H5' P5' J5' L5' G5' z5' ⊢
      have H5 := H5'
      have P5 := P5'
      have J5 := J5'
      have L5 := L5'
      have G5 := G5'
      have z5 := z5'
      clear H5' P5' J5' L5' G5' z5'
      clear q1 q2
      have hHE := fun W HW => hAC W HW
      go_wp2_with (first
        | (refine wpl_load (by rfl) 31 _ (by rfl) w.heap.size (by rfl) 31 _ P5 _ Try.underlying31 rfl _ sizeNtp (by rfl) ?_)
        | (go_at_call 30; ((with_reducible refine (hAC _ H5).mono ?_); rintro e x5 ⟨rfl, y5⟩; (have H8 := H5.below y5 (by omega)); (have P8 := P5.below y5 (by omega)); (have J8 := J5.below y5 (by omega)); (have L8 := L5.below y5 (by omega)); (have z8 := y5.size)))
        | ((refine wpl_store (by rfl) 40 _ _ (by rfl) w2.heap.size (by rfl) _ (by rfl) _ rfl 40 _ L8 (by rfl) _ sizeHeard (by rfl) (by simp [Value.oneCell']) ?_; intro x9 L9 s9 g9); (have H9 := H8.but g9 (by omega)); (have J9 := J8.but g9 (by omega)); (have P9 := P8.but g9 (by omega)))
        | ((refine wpl_storeg (by rfl) 4 _ _ (by rfl) g 2 (by rfl) (.bool false) (by rfl) (by rfl) (by simp [Value.oneCell']) _ _ (raL ver false false t1 nc lx c0 c1 c2 c3 c4 c5 c6 c7) H9 (by simp) sizeBool (by rfl) ?_; intro x10 H10 s10 g10); (have J10 := J9.but g10 (by omega)); (have P10 := P9.but g10 (by omega)); (have L10 := L9.but g10 (by omega)))
        | (refine wpl_loadf (by rfl) 28 _ (by rfl) w.heap.size 12 (by rfl) _ _ P10 _ rfl _ Try.underlying28 rfl ?_)
        | ((refine wpl_storeg (by rfl) 28 _ _ (by rfl) g 5 (by rfl) (.int .u64 xmt) (by rfl) (by rfl) (by simp [Value.oneCell']) _ _ (raL ver false false t1 nc xmt c0 c1 c2 c3 c4 c5 c6 c7) H10 (by simp) sizeU64 (by rfl) ?_; intro w6 H6 s6 g6); (have J6 := J10.but g6 (by omega)); (have L6 := L10.but g6 (by omega))))
      have G6 : But g w w6 := (((G5.then y5 (by omega)).new g9 (by omega)).trans g10).trans g6
      clear H5 L5 J5 P5 G5 g6 H8 P8 J8 L8 H9 J9 P9 L9 H10 J10 P10 L10 g9 g10 y5 hAC hHE
      have q1 := L6.cell (i := 0) rfl
      have q2 := H6.cell (i := 10) rfl
      have q3 := H6.frozen
      have B7 : But g w (w6.setCell ⟨g, 10, none⟩ (.int .i64 (c4 + 1))).drew := But.trans G6 ⟨rfl, rfl, rfl, by simp [World.setCell, World.drew], fun k _ hk => Below.heap_setCell _ _ _ _ (fun e => hk (by rw [e]))⟩
      have H7 : Blk (w6.setCell ⟨g, 10, none⟩ (.int .i64 (c4 + 1))).drew g 59 (raL ver false false t1 nc xmt c0 c1 c2 c3 (c4 + 1) c5 c6 c7) := (H6.set 10 (.int .i64 (c4 + 1))).drew
      have L7 : Blk (w6.setCell ⟨g, 10, none⟩ (.int .i64 (c4 + 1))).drew w2.heap.size 40 (hdL 4 co qa qb qd qe) := (L6.but (but_setCell w6 g 10 _) (by omega)).drew
      have J7 : Blk (w6.setCell ⟨g, 10, none⟩ (.int .i64 (c4 + 1))).drew w1.heap.size 40 zH := (J6.but (but_setCell w6 g 10 _) (by omega)).drew
      clear H6 L6 J6 G6
      go_region
      all_goals
        generalize (w6.setCell ⟨g, 10, none⟩ (.int .i64 (c4 + 1))).drew = w7 at H7 L7 J7 B7 ⊢
        clear q1 q2 q3
        go_wp2_with (first
          | (refine wpl_load (by rfl) 40 _ (by rfl) w2.heap.size (by rfl) 40 _ L7 _ Try.underlying40 rfl _ sizeHeard (by rfl) ?_)
          | (refine wpl_store (by rfl) 40 _ _ (by rfl) w1.heap.size (by rfl) _ (by rfl) _ rfl 40 _ J7 (by rfl) _ sizeHeard (by rfl) (by simp [Value.oneCell']) ?_; intro w8 J8 s8 g8))
        obtain ⟨k0, k1, k2, k3, k4, k5⟩ := cells6 J8
        refine bodyPost_ret (v := .agg (hdL 4 co qa qb qd qe).toArray) (by simp [results, Try.results15, go_sem, k0, k1, k2, k3, k4, k5]) rfl ?_
        exact ⟨rfl, H7.but g8 (by omega), B7.new g8 (by omega)⟩
    · skip
      go_enter Try.func15, Try.ntmps15
      go_wp2_with (first
        | (refine wpl_alloc (by rfl) 40 (by rfl) (.agg (zH).toArray) (zH) zeroHeard rfl ?_; intro w3 L3 s3 b3; (have H3 := H2.below b3 (by omega)); (have J3 := J2.below b3 (by omega)); (have P3 := P2.below b3 (by omega)))
        | ((refine wpl_box (by rfl) 31 _ (by rfl) _ ([.int .i64 l, .int .i64 v, .int .i64 m, .int .i64 st, .int .i64 po, .int .i64 pr, .int .u32 rd, .int .u32 rp, .int .u32 id, .int .u64 ref, .int .u64 org, .int .u64 rec, .int .u64 xmt]) (by rfl) rfl ?_; intro w1 P1 s1 b1); (have H1 := H.below b1 hlt))
        | ((refine wpl_alloc (by rfl) 40 (by rfl) (.agg (zH).toArray) (zH) zeroHeard rfl ?_; intro w2 J2 s2 b2); (have H2 := H1.below b2 (by omega)); (have P2 := P1.below b2 (by omega)))
        | ((refine wpl_store (by rfl) 40 _ _ (by rfl) w2.heap.size (by rfl) _ (by rfl) _ rfl 40 _ L3 (by rfl) _ sizeHeard (by rfl) (by simp [Value.oneCell']) ?_; intro w4 L4 s4 g4); (have H4 := H3.but g4 (by omega)); (have J4 := J3.but g4 (by omega)); (have P4 := P3.but g4 (by omega)))
        | (refine wpl_load (by rfl) 31 _ (by rfl) w.heap.size (by rfl) 31 _ P4 _ Try.underlying31 rfl _ sizeNtp (by rfl) ?_)
        | (go_at_call 29; ((with_reducible refine (hC _).mono ?_); rintro e w5 ⟨rfl, b5⟩; (have H5 := H4.below b5 (by omega)); (have P5 := P4.below b5 (by omega)); (have J5 := J4.below b5 (by omega)); (have L5 := L4.below b5 (by omega)); (have z5 := b5.size)))
        | (go_at_call 26; ((with_reducible refine (hr _).mono ?_); rintro e w1 ⟨rfl, rfl⟩))
        | (refine wpl_loadf (by rfl) 3 _ (by rfl) w.heap.size 2 (by rfl) _ _ P5 _ rfl _ Try.underlying3 rfl ?_) | (refine wpl_loadf (by rfl) 4 _ (by rfl) g 1 (by rfl) _ _ H5 _ rfl _ Try.underlying4 rfl ?_) | (refine wpl_loadf (by rfl) 3 _ (by rfl) g 3 (by rfl) _ _ H5 _ rfl _ Try.underlying3 rfl ?_) | (refine wpl_loadf (by rfl) 4 _ (by rfl) g 2 (by rfl) _ _ H5 _ rfl _ Try.underlying4 rfl ?_)
        )
      have G5 : But g w w5 := ((((But.of_below b1 (Nat.le_refl _)).then b2 (by omega)).then b3 (by omega)).new g4 (by omega)).then b5 (by omega)
      clear P1 J2 H1 H2 P2 H3 J3 L3 P3 H4 J4 P4 L4 b1 b2 b3 g4 b5
      have q1 := P5.cell (i := 10) rfl
      have q2 := H5.cell (i := 4) rfl
      go_region_held3 (fun w' => w'.cell? ⟨w.heap.size, 10, none⟩ = some (.int .u64 org) ∧ w'.cell? ⟨g, 4, none⟩ = some (.int .u64 nc)) (exact ⟨q1, q2⟩) (fail)
      clear q1 q2
      have H5' := H5.drew
      have P5' := P5.drew
      have J5' := J5.drew
      have L5' := L5.drew
      have G5' : But g w w5.drew := ⟨G5.os, G5.tape, G5.output, G5.size, G5.block⟩
      have z5' : w4.heap.size ≤ w5.drew.heap.size := z5
      clear H5 P5 J5 L5 G5 z5
      generalize w5.drew = w5' at H5' P5' J5' L5' G5' z5' ⊢
      rename_i w5old
      have H5 := H5'
      have P5 := P5'
      have J5 := J5'
      have L5 := L5'
      have G5 := G5'
      have z5 := z5'
      clear H5' P5' J5' L5' G5' z5'
      go_wp2_with fail
      have q1 := P5.cell (i := 12) rfl
      have q2 := H5.cell (i := 5) rfl
      go_region_held3 (fun w' => w'.cell? ⟨w.heap.size, 12, none⟩ = some (.int .u64 xmt) ∧ w'.cell? ⟨g, 5, none⟩ = some (.int .u64 lx)) (exact ⟨q1, q2⟩) (fail)
      have H5' := H5.drew
      have P5' := P5.drew
      have J5' := J5.drew
      have L5' := L5.drew
      have G5' : But g w w5'.drew := ⟨G5.os, G5.tape, G5.output, G5.size, G5.block⟩
      have z5' : w4.heap.size ≤ w5'.drew.heap.size := z5
      clear H5 P5 J5 L5 G5 z5
      generalize w5'.drew = w5'' at H5' P5' J5' L5' G5' z5' ⊢
      have H5 := H5'
      have P5 := P5'
      have J5 := J5'
      have L5 := L5'
      have G5 := G5'
      have z5 := z5'
      clear H5' P5' J5' L5' G5' z5'
      clear q1 q2
      have hHE := fun W HW => hAC W HW
      go_wp2_with (first
        | (refine wpl_load (by rfl) 31 _ (by rfl) w.heap.size (by rfl) 31 _ P5 _ Try.underlying31 rfl _ sizeNtp (by rfl) ?_)
        | (go_at_call 30; ((with_reducible refine (hAC _ H5).mono ?_); rintro e x5 ⟨rfl, y5⟩; (have H8 := H5.below y5 (by omega)); (have P8 := P5.below y5 (by omega)); (have J8 := J5.below y5 (by omega)); (have L8 := L5.below y5 (by omega)); (have z8 := y5.size)))
        | ((refine wpl_store (by rfl) 40 _ _ (by rfl) w2.heap.size (by rfl) _ (by rfl) _ rfl 40 _ L8 (by rfl) _ sizeHeard (by rfl) (by simp [Value.oneCell']) ?_; intro x9 L9 s9 g9); (have H9 := H8.but g9 (by omega)); (have J9 := J8.but g9 (by omega)); (have P9 := P8.but g9 (by omega)))
        | ((refine wpl_storeg (by rfl) 4 _ _ (by rfl) g 2 (by rfl) (.bool false) (by rfl) (by rfl) (by simp [Value.oneCell']) _ _ (raL ver true false t1 nc lx c0 c1 c2 c3 c4 c5 c6 c7) H9 (by simp) sizeBool (by rfl) ?_; intro x10 H10 s10 g10); (have J10 := J9.but g10 (by omega)); (have P10 := P9.but g10 (by omega)); (have L10 := L9.but g10 (by omega)))
        | (refine wpl_loadf (by rfl) 28 _ (by rfl) w.heap.size 12 (by rfl) _ _ P10 _ rfl _ Try.underlying28 rfl ?_)
        | ((refine wpl_storeg (by rfl) 28 _ _ (by rfl) g 5 (by rfl) (.int .u64 xmt) (by rfl) (by rfl) (by simp [Value.oneCell']) _ _ (raL ver true false t1 nc xmt c0 c1 c2 c3 c4 c5 c6 c7) H10 (by simp) sizeU64 (by rfl) ?_; intro w6 H6 s6 g6); (have J6 := J10.but g6 (by omega)); (have L6 := L10.but g6 (by omega))))
      have G6 : But g w w6 := (((G5.then y5 (by omega)).new g9 (by omega)).trans g10).trans g6
      clear H5 L5 J5 P5 G5 g6 H8 P8 J8 L8 H9 J9 P9 L9 H10 J10 P10 L10 g9 g10 y5 hAC hHE
      have q1 := L6.cell (i := 0) rfl
      have q2 := H6.cell (i := 10) rfl
      have q3 := H6.frozen
      have B7 : But g w (w6.setCell ⟨g, 10, none⟩ (.int .i64 (c4 + 1))).drew := But.trans G6 ⟨rfl, rfl, rfl, by simp [World.setCell, World.drew], fun k _ hk => Below.heap_setCell _ _ _ _ (fun e => hk (by rw [e]))⟩
      have H7 : Blk (w6.setCell ⟨g, 10, none⟩ (.int .i64 (c4 + 1))).drew g 59 (raL ver true false t1 nc xmt c0 c1 c2 c3 (c4 + 1) c5 c6 c7) := (H6.set 10 (.int .i64 (c4 + 1))).drew
      have L7 : Blk (w6.setCell ⟨g, 10, none⟩ (.int .i64 (c4 + 1))).drew w2.heap.size 40 (hdL 4 co qa qb qd qe) := (L6.but (but_setCell w6 g 10 _) (by omega)).drew
      have J7 : Blk (w6.setCell ⟨g, 10, none⟩ (.int .i64 (c4 + 1))).drew w1.heap.size 40 zH := (J6.but (but_setCell w6 g 10 _) (by omega)).drew
      clear H6 L6 J6 G6
      go_region
      all_goals
        generalize (w6.setCell ⟨g, 10, none⟩ (.int .i64 (c4 + 1))).drew = w7 at H7 L7 J7 B7 ⊢
        clear q1 q2 q3
        go_wp2_with (first
          | (refine wpl_load (by rfl) 40 _ (by rfl) w2.heap.size (by rfl) 40 _ L7 _ Try.underlying40 rfl _ sizeHeard (by rfl) ?_)
          | (refine wpl_store (by rfl) 40 _ _ (by rfl) w1.heap.size (by rfl) _ (by rfl) _ rfl 40 _ J7 (by rfl) _ sizeHeard (by rfl) (by simp [Value.oneCell']) ?_; intro w8 J8 s8 g8))
        obtain ⟨k0, k1, k2, k3, k4, k5⟩ := cells6 J8
        refine bodyPost_ret (v := .agg (hdL 4 co qa qb qd qe).toArray) (by simp [results, Try.results15, go_sem, k0, k1, k2, k3, k4, k5]) rfl ?_
        exact ⟨rfl, H7.but g8 (by omega), B7.new g8 (by omega)⟩
set_option maxRecDepth 100000 in
set_option maxHeartbeats 8000000 in
theorem rrec_acc5 (g : Nat) (ver t1 nc : Int) (sn : Bool) (lx c0 c1 c2 c3 c4 c5 c6 c7 now l v m st po pr rd rp id ref org rec xmt : Int) (co : ByteArray) (qa qb qd qe : Int) (w : World) (H : Blk w g 59 (raL ver sn true t1 nc lx c0 c1 c2 c3 c4 c5 c6 c7)) (hc : CB c5) (hI : nc = 0 → t1 = 0) (hsn : sn = !decide (nc = 0)) (hb : badB (nchk l v m st po pr) m now nc t1 = false) (ho : org = nc) (hx : xmt = 0 ∨ xmt ≠ lx)
    (hAC : ∀ W, Blk W g 59 (raL ver sn true t1 nc lx c0 c1 c2 c3 c4 c5 c6 c7) → Calls Try.prog 30 #[.pointer (some ⟨g, 0, none⟩), ntp l v m st po pr rd rp id ref org rec xmt, .int .i64 now] W fun e w' => e = .returned (.agg (hdL 5 co qa qb qd qe).toArray) ∧ Below W.heap.size W w') :
    Calls Try.prog 15 #[.pointer (some ⟨g, 0, none⟩), ntp l v m st po pr rd rp id ref org rec xmt, .int .i64 now] w fun e w' => e = .returned (.agg (hdL 5 co qa qb qd qe).toArray) ∧ Blk w' g 59 (raL ver sn false t1 nc xmt c0 c1 c2 c3 c4 (c5 + 1) c6 c7) ∧ But g w w' := by
  have hr := fun W => rin_any now W
  have hC := fun W => rnchk_any l v m st po pr rd rp id ref org rec xmt W
  have hlt := H.lt
  have hcw : IntKind.i64.wrap (c5 + 1) = c5 + 1 := by rw [IntKind.wrap_i64]; omega
  obtain ⟨K, hK⟩ : ∃ K, K = nchk l v m st po pr := ⟨_, rfl⟩
  rw [← hK] at hb hC
  clear hK
  obtain ⟨hK0', hm4', h3, h4⟩ := rgood hI hsn hb
  simp only [h3] at hr
  clear hb hI hsn h3
  have ho' : (org != nc) = false := by simpa using ho
  clear ho
  by_cases hx0 : xmt = 0
  · have hx' : (xmt != 0) = false := by simpa using hx0
    clear hx hx0
    rcases h4 with rfl | ⟨rfl, h6⟩
    · skip
      go_enter Try.func15, Try.ntmps15
      go_wp2_with (first
        | (refine wpl_alloc (by rfl) 40 (by rfl) (.agg (zH).toArray) (zH) zeroHeard rfl ?_; intro w3 L3 s3 b3; (have H3 := H2.below b3 (by omega)); (have J3 := J2.below b3 (by omega)); (have P3 := P2.below b3 (by omega)))
        | ((refine wpl_box (by rfl) 31 _ (by rfl) _ ([.int .i64 l, .int .i64 v, .int .i64 m, .int .i64 st, .int .i64 po, .int .i64 pr, .int .u32 rd, .int .u32 rp, .int .u32 id, .int .u64 ref, .int .u64 org, .int .u64 rec, .int .u64 xmt]) (by rfl) rfl ?_; intro w1 P1 s1 b1); (have H1 := H.below b1 hlt))
        | ((refine wpl_alloc (by rfl) 40 (by rfl) (.agg (zH).toArray) (zH) zeroHeard rfl ?_; intro w2 J2 s2 b2); (have H2 := H1.below b2 (by omega)); (have P2 := P1.below b2 (by omega)))
        | ((refine wpl_store (by rfl) 40 _ _ (by rfl) w2.heap.size (by rfl) _ (by rfl) _ rfl 40 _ L3 (by rfl) _ sizeHeard (by rfl) (by simp [Value.oneCell']) ?_; intro w4 L4 s4 g4); (have H4 := H3.but g4 (by omega)); (have J4 := J3.but g4 (by omega)); (have P4 := P3.but g4 (by omega)))
        | (refine wpl_load (by rfl) 31 _ (by rfl) w.heap.size (by rfl) 31 _ P4 _ Try.underlying31 rfl _ sizeNtp (by rfl) ?_)
        | (go_at_call 29; ((with_reducible refine (hC _).mono ?_); rintro e w5 ⟨rfl, b5⟩; (have H5 := H4.below b5 (by omega)); (have P5 := P4.below b5 (by omega)); (have J5 := J4.below b5 (by omega)); (have L5 := L4.below b5 (by omega)); (have z5 := b5.size)))
        | (go_at_call 26; ((with_reducible refine (hr _).mono ?_); rintro e w1 ⟨rfl, rfl⟩))
        | (refine wpl_loadf (by rfl) 3 _ (by rfl) w.heap.size 2 (by rfl) _ _ P5 _ rfl _ Try.underlying3 rfl ?_) | (refine wpl_loadf (by rfl) 4 _ (by rfl) g 1 (by rfl) _ _ H5 _ rfl _ Try.underlying4 rfl ?_) | (refine wpl_loadf (by rfl) 3 _ (by rfl) g 3 (by rfl) _ _ H5 _ rfl _ Try.underlying3 rfl ?_) | (refine wpl_loadf (by rfl) 4 _ (by rfl) g 2 (by rfl) _ _ H5 _ rfl _ Try.underlying4 rfl ?_)
        )
      have G5 : But g w w5 := ((((But.of_below b1 (Nat.le_refl _)).then b2 (by omega)).then b3 (by omega)).new g4 (by omega)).then b5 (by omega)
      clear P1 J2 H1 H2 P2 H3 J3 L3 P3 H4 J4 P4 L4 b1 b2 b3 g4 b5
      have q1 := P5.cell (i := 10) rfl
      have q2 := H5.cell (i := 4) rfl
      go_region_held3 (fun w' => w'.cell? ⟨w.heap.size, 10, none⟩ = some (.int .u64 org) ∧ w'.cell? ⟨g, 4, none⟩ = some (.int .u64 nc)) (exact ⟨q1, q2⟩) (fail)
      clear q1 q2
      have H5' := H5.drew
      have P5' := P5.drew
      have J5' := J5.drew
      have L5' := L5.drew
      have G5' : But g w w5.drew := ⟨G5.os, G5.tape, G5.output, G5.size, G5.block⟩
      have z5' : w4.heap.size ≤ w5.drew.heap.size := z5
      clear H5 P5 J5 L5 G5 z5
      generalize w5.drew = w5' at H5' P5' J5' L5' G5' z5' ⊢
      rename_i w5old
      have H5 := H5'
      have P5 := P5'
      have J5 := J5'
      have L5 := L5'
      have G5 := G5'
      have z5 := z5'
      clear H5' P5' J5' L5' G5' z5'
      go_wp2_with fail
      have q1 := P5.cell (i := 12) rfl
      have q2 := H5.cell (i := 5) rfl
      go_quiet (fail)
      have H5' := H5.drewN nq
      have P5' := P5.drewN nq
      have J5' := J5.drewN nq
      have L5' := L5.drewN nq
      have G5' : But g w (w5'.drewN nq) := G5.then (below_drewN (Below.refl w.heap.size w5') nq) (Nat.le_refl _)
      have z5' : w4.heap.size ≤ (w5'.drewN nq).heap.size := z5
      clear H5 P5 J5 L5 G5 z5
      generalize w5'.drewN nq = w5'' at H5' P5' J5' L5' G5' z5' ⊢
      have H5 := H5'
      have P5 := P5'
      have J5 := J5'
      have L5 := L5'
      have G5 := G5'
      have z5 := z5'
      clear H5' P5' J5' L5' G5' z5'
      clear q1 q2
      have hHE := fun W HW => hAC W HW
      go_wp2_with (first
        | (refine wpl_load (by rfl) 31 _ (by rfl) w.heap.size (by rfl) 31 _ P5 _ Try.underlying31 rfl _ sizeNtp (by rfl) ?_)
        | (go_at_call 30; ((with_reducible refine (hAC _ H5).mono ?_); rintro e x5 ⟨rfl, y5⟩; (have H8 := H5.below y5 (by omega)); (have P8 := P5.below y5 (by omega)); (have J8 := J5.below y5 (by omega)); (have L8 := L5.below y5 (by omega)); (have z8 := y5.size)))
        | ((refine wpl_store (by rfl) 40 _ _ (by rfl) w2.heap.size (by rfl) _ (by rfl) _ rfl 40 _ L8 (by rfl) _ sizeHeard (by rfl) (by simp [Value.oneCell']) ?_; intro x9 L9 s9 g9); (have H9 := H8.but g9 (by omega)); (have J9 := J8.but g9 (by omega)); (have P9 := P8.but g9 (by omega)))
        | ((refine wpl_storeg (by rfl) 4 _ _ (by rfl) g 2 (by rfl) (.bool false) (by rfl) (by rfl) (by simp [Value.oneCell']) _ _ (raL ver false false t1 nc lx c0 c1 c2 c3 c4 c5 c6 c7) H9 (by simp) sizeBool (by rfl) ?_; intro x10 H10 s10 g10); (have J10 := J9.but g10 (by omega)); (have P10 := P9.but g10 (by omega)); (have L10 := L9.but g10 (by omega)))
        | (refine wpl_loadf (by rfl) 28 _ (by rfl) w.heap.size 12 (by rfl) _ _ P10 _ rfl _ Try.underlying28 rfl ?_)
        | ((refine wpl_storeg (by rfl) 28 _ _ (by rfl) g 5 (by rfl) (.int .u64 xmt) (by rfl) (by rfl) (by simp [Value.oneCell']) _ _ (raL ver false false t1 nc xmt c0 c1 c2 c3 c4 c5 c6 c7) H10 (by simp) sizeU64 (by rfl) ?_; intro w6 H6 s6 g6); (have J6 := J10.but g6 (by omega)); (have L6 := L10.but g6 (by omega))))
      have G6 : But g w w6 := (((G5.then y5 (by omega)).new g9 (by omega)).trans g10).trans g6
      clear H5 L5 J5 P5 G5 g6 H8 P8 J8 L8 H9 J9 P9 L9 H10 J10 P10 L10 g9 g10 y5 hAC hHE
      have q1 := L6.cell (i := 0) rfl
      have q2 := H6.cell (i := 11) rfl
      have q3 := H6.frozen
      have B7 : But g w (w6.setCell ⟨g, 11, none⟩ (.int .i64 (c5 + 1))).drew := But.trans G6 ⟨rfl, rfl, rfl, by simp [World.setCell, World.drew], fun k _ hk => Below.heap_setCell _ _ _ _ (fun e => hk (by rw [e]))⟩
      have H7 : Blk (w6.setCell ⟨g, 11, none⟩ (.int .i64 (c5 + 1))).drew g 59 (raL ver false false t1 nc xmt c0 c1 c2 c3 c4 (c5 + 1) c6 c7) := (H6.set 11 (.int .i64 (c5 + 1))).drew
      have L7 : Blk (w6.setCell ⟨g, 11, none⟩ (.int .i64 (c5 + 1))).drew w2.heap.size 40 (hdL 5 co qa qb qd qe) := (L6.but (but_setCell w6 g 11 _) (by omega)).drew
      have J7 : Blk (w6.setCell ⟨g, 11, none⟩ (.int .i64 (c5 + 1))).drew w1.heap.size 40 zH := (J6.but (but_setCell w6 g 11 _) (by omega)).drew
      clear H6 L6 J6 G6
      go_region
      all_goals
        generalize (w6.setCell ⟨g, 11, none⟩ (.int .i64 (c5 + 1))).drew = w7 at H7 L7 J7 B7 ⊢
        clear q1 q2 q3
        go_wp2_with (first
          | (refine wpl_load (by rfl) 40 _ (by rfl) w2.heap.size (by rfl) 40 _ L7 _ Try.underlying40 rfl _ sizeHeard (by rfl) ?_)
          | (refine wpl_store (by rfl) 40 _ _ (by rfl) w1.heap.size (by rfl) _ (by rfl) _ rfl 40 _ J7 (by rfl) _ sizeHeard (by rfl) (by simp [Value.oneCell']) ?_; intro w8 J8 s8 g8))
        obtain ⟨k0, k1, k2, k3, k4, k5⟩ := cells6 J8
        refine bodyPost_ret (v := .agg (hdL 5 co qa qb qd qe).toArray) (by simp [results, Try.results15, go_sem, k0, k1, k2, k3, k4, k5]) rfl ?_
        exact ⟨rfl, H7.but g8 (by omega), B7.new g8 (by omega)⟩
    · skip
      go_enter Try.func15, Try.ntmps15
      go_wp2_with (first
        | (refine wpl_alloc (by rfl) 40 (by rfl) (.agg (zH).toArray) (zH) zeroHeard rfl ?_; intro w3 L3 s3 b3; (have H3 := H2.below b3 (by omega)); (have J3 := J2.below b3 (by omega)); (have P3 := P2.below b3 (by omega)))
        | ((refine wpl_box (by rfl) 31 _ (by rfl) _ ([.int .i64 l, .int .i64 v, .int .i64 m, .int .i64 st, .int .i64 po, .int .i64 pr, .int .u32 rd, .int .u32 rp, .int .u32 id, .int .u64 ref, .int .u64 org, .int .u64 rec, .int .u64 xmt]) (by rfl) rfl ?_; intro w1 P1 s1 b1); (have H1 := H.below b1 hlt))
        | ((refine wpl_alloc (by rfl) 40 (by rfl) (.agg (zH).toArray) (zH) zeroHeard rfl ?_; intro w2 J2 s2 b2); (have H2 := H1.below b2 (by omega)); (have P2 := P1.below b2 (by omega)))
        | ((refine wpl_store (by rfl) 40 _ _ (by rfl) w2.heap.size (by rfl) _ (by rfl) _ rfl 40 _ L3 (by rfl) _ sizeHeard (by rfl) (by simp [Value.oneCell']) ?_; intro w4 L4 s4 g4); (have H4 := H3.but g4 (by omega)); (have J4 := J3.but g4 (by omega)); (have P4 := P3.but g4 (by omega)))
        | (refine wpl_load (by rfl) 31 _ (by rfl) w.heap.size (by rfl) 31 _ P4 _ Try.underlying31 rfl _ sizeNtp (by rfl) ?_)
        | (go_at_call 29; ((with_reducible refine (hC _).mono ?_); rintro e w5 ⟨rfl, b5⟩; (have H5 := H4.below b5 (by omega)); (have P5 := P4.below b5 (by omega)); (have J5 := J4.below b5 (by omega)); (have L5 := L4.below b5 (by omega)); (have z5 := b5.size)))
        | (go_at_call 26; ((with_reducible refine (hr _).mono ?_); rintro e w1 ⟨rfl, rfl⟩))
        | (refine wpl_loadf (by rfl) 3 _ (by rfl) w.heap.size 2 (by rfl) _ _ P5 _ rfl _ Try.underlying3 rfl ?_) | (refine wpl_loadf (by rfl) 4 _ (by rfl) g 1 (by rfl) _ _ H5 _ rfl _ Try.underlying4 rfl ?_) | (refine wpl_loadf (by rfl) 3 _ (by rfl) g 3 (by rfl) _ _ H5 _ rfl _ Try.underlying3 rfl ?_) | (refine wpl_loadf (by rfl) 4 _ (by rfl) g 2 (by rfl) _ _ H5 _ rfl _ Try.underlying4 rfl ?_)
        )
      have G5 : But g w w5 := ((((But.of_below b1 (Nat.le_refl _)).then b2 (by omega)).then b3 (by omega)).new g4 (by omega)).then b5 (by omega)
      clear P1 J2 H1 H2 P2 H3 J3 L3 P3 H4 J4 P4 L4 b1 b2 b3 g4 b5
      have q1 := P5.cell (i := 10) rfl
      have q2 := H5.cell (i := 4) rfl
      go_region_held3 (fun w' => w'.cell? ⟨w.heap.size, 10, none⟩ = some (.int .u64 org) ∧ w'.cell? ⟨g, 4, none⟩ = some (.int .u64 nc)) (exact ⟨q1, q2⟩) (fail)
      clear q1 q2
      have H5' := H5.drew
      have P5' := P5.drew
      have J5' := J5.drew
      have L5' := L5.drew
      have G5' : But g w w5.drew := ⟨G5.os, G5.tape, G5.output, G5.size, G5.block⟩
      have z5' : w4.heap.size ≤ w5.drew.heap.size := z5
      clear H5 P5 J5 L5 G5 z5
      generalize w5.drew = w5' at H5' P5' J5' L5' G5' z5' ⊢
      rename_i w5old
      have H5 := H5'
      have P5 := P5'
      have J5 := J5'
      have L5 := L5'
      have G5 := G5'
      have z5 := z5'
      clear H5' P5' J5' L5' G5' z5'
      go_wp2_with fail
      have q1 := P5.cell (i := 12) rfl
      have q2 := H5.cell (i := 5) rfl
      go_quiet (fail)
      have H5' := H5.drewN nq
      have P5' := P5.drewN nq
      have J5' := J5.drewN nq
      have L5' := L5.drewN nq
      have G5' : But g w (w5'.drewN nq) := G5.then (below_drewN (Below.refl w.heap.size w5') nq) (Nat.le_refl _)
      have z5' : w4.heap.size ≤ (w5'.drewN nq).heap.size := z5
      clear H5 P5 J5 L5 G5 z5
      generalize w5'.drewN nq = w5'' at H5' P5' J5' L5' G5' z5' ⊢
      have H5 := H5'
      have P5 := P5'
      have J5 := J5'
      have L5 := L5'
      have G5 := G5'
      have z5 := z5'
      clear H5' P5' J5' L5' G5' z5'
      clear q1 q2
      have hHE := fun W HW => hAC W HW
      go_wp2_with (first
        | (refine wpl_load (by rfl) 31 _ (by rfl) w.heap.size (by rfl) 31 _ P5 _ Try.underlying31 rfl _ sizeNtp (by rfl) ?_)
        | (go_at_call 30; ((with_reducible refine (hAC _ H5).mono ?_); rintro e x5 ⟨rfl, y5⟩; (have H8 := H5.below y5 (by omega)); (have P8 := P5.below y5 (by omega)); (have J8 := J5.below y5 (by omega)); (have L8 := L5.below y5 (by omega)); (have z8 := y5.size)))
        | ((refine wpl_store (by rfl) 40 _ _ (by rfl) w2.heap.size (by rfl) _ (by rfl) _ rfl 40 _ L8 (by rfl) _ sizeHeard (by rfl) (by simp [Value.oneCell']) ?_; intro x9 L9 s9 g9); (have H9 := H8.but g9 (by omega)); (have J9 := J8.but g9 (by omega)); (have P9 := P8.but g9 (by omega)))
        | ((refine wpl_storeg (by rfl) 4 _ _ (by rfl) g 2 (by rfl) (.bool false) (by rfl) (by rfl) (by simp [Value.oneCell']) _ _ (raL ver true false t1 nc lx c0 c1 c2 c3 c4 c5 c6 c7) H9 (by simp) sizeBool (by rfl) ?_; intro x10 H10 s10 g10); (have J10 := J9.but g10 (by omega)); (have P10 := P9.but g10 (by omega)); (have L10 := L9.but g10 (by omega)))
        | (refine wpl_loadf (by rfl) 28 _ (by rfl) w.heap.size 12 (by rfl) _ _ P10 _ rfl _ Try.underlying28 rfl ?_)
        | ((refine wpl_storeg (by rfl) 28 _ _ (by rfl) g 5 (by rfl) (.int .u64 xmt) (by rfl) (by rfl) (by simp [Value.oneCell']) _ _ (raL ver true false t1 nc xmt c0 c1 c2 c3 c4 c5 c6 c7) H10 (by simp) sizeU64 (by rfl) ?_; intro w6 H6 s6 g6); (have J6 := J10.but g6 (by omega)); (have L6 := L10.but g6 (by omega))))
      have G6 : But g w w6 := (((G5.then y5 (by omega)).new g9 (by omega)).trans g10).trans g6
      clear H5 L5 J5 P5 G5 g6 H8 P8 J8 L8 H9 J9 P9 L9 H10 J10 P10 L10 g9 g10 y5 hAC hHE
      have q1 := L6.cell (i := 0) rfl
      have q2 := H6.cell (i := 11) rfl
      have q3 := H6.frozen
      have B7 : But g w (w6.setCell ⟨g, 11, none⟩ (.int .i64 (c5 + 1))).drew := But.trans G6 ⟨rfl, rfl, rfl, by simp [World.setCell, World.drew], fun k _ hk => Below.heap_setCell _ _ _ _ (fun e => hk (by rw [e]))⟩
      have H7 : Blk (w6.setCell ⟨g, 11, none⟩ (.int .i64 (c5 + 1))).drew g 59 (raL ver true false t1 nc xmt c0 c1 c2 c3 c4 (c5 + 1) c6 c7) := (H6.set 11 (.int .i64 (c5 + 1))).drew
      have L7 : Blk (w6.setCell ⟨g, 11, none⟩ (.int .i64 (c5 + 1))).drew w2.heap.size 40 (hdL 5 co qa qb qd qe) := (L6.but (but_setCell w6 g 11 _) (by omega)).drew
      have J7 : Blk (w6.setCell ⟨g, 11, none⟩ (.int .i64 (c5 + 1))).drew w1.heap.size 40 zH := (J6.but (but_setCell w6 g 11 _) (by omega)).drew
      clear H6 L6 J6 G6
      go_region
      all_goals
        generalize (w6.setCell ⟨g, 11, none⟩ (.int .i64 (c5 + 1))).drew = w7 at H7 L7 J7 B7 ⊢
        clear q1 q2 q3
        go_wp2_with (first
          | (refine wpl_load (by rfl) 40 _ (by rfl) w2.heap.size (by rfl) 40 _ L7 _ Try.underlying40 rfl _ sizeHeard (by rfl) ?_)
          | (refine wpl_store (by rfl) 40 _ _ (by rfl) w1.heap.size (by rfl) _ (by rfl) _ rfl 40 _ J7 (by rfl) _ sizeHeard (by rfl) (by simp [Value.oneCell']) ?_; intro w8 J8 s8 g8))
        obtain ⟨k0, k1, k2, k3, k4, k5⟩ := cells6 J8
        refine bodyPost_ret (v := .agg (hdL 5 co qa qb qd qe).toArray) (by simp [results, Try.results15, go_sem, k0, k1, k2, k3, k4, k5]) rfl ?_
        exact ⟨rfl, H7.but g8 (by omega), B7.new g8 (by omega)⟩
  · have hx' : (xmt != 0) = true := by simpa using hx0
    have hl' : (xmt == lx) = false := by simp; omega
    clear hx hx0
    rcases h4 with rfl | ⟨rfl, h6⟩
    · skip
      go_enter Try.func15, Try.ntmps15
      go_wp2_with (first
        | (refine wpl_alloc (by rfl) 40 (by rfl) (.agg (zH).toArray) (zH) zeroHeard rfl ?_; intro w3 L3 s3 b3; (have H3 := H2.below b3 (by omega)); (have J3 := J2.below b3 (by omega)); (have P3 := P2.below b3 (by omega)))
        | ((refine wpl_box (by rfl) 31 _ (by rfl) _ ([.int .i64 l, .int .i64 v, .int .i64 m, .int .i64 st, .int .i64 po, .int .i64 pr, .int .u32 rd, .int .u32 rp, .int .u32 id, .int .u64 ref, .int .u64 org, .int .u64 rec, .int .u64 xmt]) (by rfl) rfl ?_; intro w1 P1 s1 b1); (have H1 := H.below b1 hlt))
        | ((refine wpl_alloc (by rfl) 40 (by rfl) (.agg (zH).toArray) (zH) zeroHeard rfl ?_; intro w2 J2 s2 b2); (have H2 := H1.below b2 (by omega)); (have P2 := P1.below b2 (by omega)))
        | ((refine wpl_store (by rfl) 40 _ _ (by rfl) w2.heap.size (by rfl) _ (by rfl) _ rfl 40 _ L3 (by rfl) _ sizeHeard (by rfl) (by simp [Value.oneCell']) ?_; intro w4 L4 s4 g4); (have H4 := H3.but g4 (by omega)); (have J4 := J3.but g4 (by omega)); (have P4 := P3.but g4 (by omega)))
        | (refine wpl_load (by rfl) 31 _ (by rfl) w.heap.size (by rfl) 31 _ P4 _ Try.underlying31 rfl _ sizeNtp (by rfl) ?_)
        | (go_at_call 29; ((with_reducible refine (hC _).mono ?_); rintro e w5 ⟨rfl, b5⟩; (have H5 := H4.below b5 (by omega)); (have P5 := P4.below b5 (by omega)); (have J5 := J4.below b5 (by omega)); (have L5 := L4.below b5 (by omega)); (have z5 := b5.size)))
        | (go_at_call 26; ((with_reducible refine (hr _).mono ?_); rintro e w1 ⟨rfl, rfl⟩))
        | (refine wpl_loadf (by rfl) 3 _ (by rfl) w.heap.size 2 (by rfl) _ _ P5 _ rfl _ Try.underlying3 rfl ?_) | (refine wpl_loadf (by rfl) 4 _ (by rfl) g 1 (by rfl) _ _ H5 _ rfl _ Try.underlying4 rfl ?_) | (refine wpl_loadf (by rfl) 3 _ (by rfl) g 3 (by rfl) _ _ H5 _ rfl _ Try.underlying3 rfl ?_) | (refine wpl_loadf (by rfl) 4 _ (by rfl) g 2 (by rfl) _ _ H5 _ rfl _ Try.underlying4 rfl ?_)
        )
      have G5 : But g w w5 := ((((But.of_below b1 (Nat.le_refl _)).then b2 (by omega)).then b3 (by omega)).new g4 (by omega)).then b5 (by omega)
      clear P1 J2 H1 H2 P2 H3 J3 L3 P3 H4 J4 P4 L4 b1 b2 b3 g4 b5
      have q1 := P5.cell (i := 10) rfl
      have q2 := H5.cell (i := 4) rfl
      go_region_held3 (fun w' => w'.cell? ⟨w.heap.size, 10, none⟩ = some (.int .u64 org) ∧ w'.cell? ⟨g, 4, none⟩ = some (.int .u64 nc)) (exact ⟨q1, q2⟩) (fail)
      clear q1 q2
      have H5' := H5.drew
      have P5' := P5.drew
      have J5' := J5.drew
      have L5' := L5.drew
      have G5' : But g w w5.drew := ⟨G5.os, G5.tape, G5.output, G5.size, G5.block⟩
      have z5' : w4.heap.size ≤ w5.drew.heap.size := z5
      clear H5 P5 J5 L5 G5 z5
      generalize w5.drew = w5' at H5' P5' J5' L5' G5' z5' ⊢
      rename_i w5old
      have H5 := H5'
      have P5 := P5'
      have J5 := J5'
      have L5 := L5'
      have G5 := G5'
      have z5 := z5'
      clear H5' P5' J5' L5' G5' z5'
      go_wp2_with fail
      have q1 := P5.cell (i := 12) rfl
      have q2 := H5.cell (i := 5) rfl
      go_region_held3 (fun w' => w'.cell? ⟨w.heap.size, 12, none⟩ = some (.int .u64 xmt) ∧ w'.cell? ⟨g, 5, none⟩ = some (.int .u64 lx)) (exact ⟨q1, q2⟩) (fail)
      have H5' := H5.drew
      have P5' := P5.drew
      have J5' := J5.drew
      have L5' := L5.drew
      have G5' : But g w w5'.drew := ⟨G5.os, G5.tape, G5.output, G5.size, G5.block⟩
      have z5' : w4.heap.size ≤ w5'.drew.heap.size := z5
      clear H5 P5 J5 L5 G5 z5
      generalize w5'.drew = w5'' at H5' P5' J5' L5' G5' z5' ⊢
      have H5 := H5'
      have P5 := P5'
      have J5 := J5'
      have L5 := L5'
      have G5 := G5'
      have z5 := z5'
      clear H5' P5' J5' L5' G5' z5'
      clear q1 q2
      have hHE := fun W HW => hAC W HW
      go_wp2_with (first
        | (refine wpl_load (by rfl) 31 _ (by rfl) w.heap.size (by rfl) 31 _ P5 _ Try.underlying31 rfl _ sizeNtp (by rfl) ?_)
        | (go_at_call 30; ((with_reducible refine (hAC _ H5).mono ?_); rintro e x5 ⟨rfl, y5⟩; (have H8 := H5.below y5 (by omega)); (have P8 := P5.below y5 (by omega)); (have J8 := J5.below y5 (by omega)); (have L8 := L5.below y5 (by omega)); (have z8 := y5.size)))
        | ((refine wpl_store (by rfl) 40 _ _ (by rfl) w2.heap.size (by rfl) _ (by rfl) _ rfl 40 _ L8 (by rfl) _ sizeHeard (by rfl) (by simp [Value.oneCell']) ?_; intro x9 L9 s9 g9); (have H9 := H8.but g9 (by omega)); (have J9 := J8.but g9 (by omega)); (have P9 := P8.but g9 (by omega)))
        | ((refine wpl_storeg (by rfl) 4 _ _ (by rfl) g 2 (by rfl) (.bool false) (by rfl) (by rfl) (by simp [Value.oneCell']) _ _ (raL ver false false t1 nc lx c0 c1 c2 c3 c4 c5 c6 c7) H9 (by simp) sizeBool (by rfl) ?_; intro x10 H10 s10 g10); (have J10 := J9.but g10 (by omega)); (have P10 := P9.but g10 (by omega)); (have L10 := L9.but g10 (by omega)))
        | (refine wpl_loadf (by rfl) 28 _ (by rfl) w.heap.size 12 (by rfl) _ _ P10 _ rfl _ Try.underlying28 rfl ?_)
        | ((refine wpl_storeg (by rfl) 28 _ _ (by rfl) g 5 (by rfl) (.int .u64 xmt) (by rfl) (by rfl) (by simp [Value.oneCell']) _ _ (raL ver false false t1 nc xmt c0 c1 c2 c3 c4 c5 c6 c7) H10 (by simp) sizeU64 (by rfl) ?_; intro w6 H6 s6 g6); (have J6 := J10.but g6 (by omega)); (have L6 := L10.but g6 (by omega))))
      have G6 : But g w w6 := (((G5.then y5 (by omega)).new g9 (by omega)).trans g10).trans g6
      clear H5 L5 J5 P5 G5 g6 H8 P8 J8 L8 H9 J9 P9 L9 H10 J10 P10 L10 g9 g10 y5 hAC hHE
      have q1 := L6.cell (i := 0) rfl
      have q2 := H6.cell (i := 11) rfl
      have q3 := H6.frozen
      have B7 : But g w (w6.setCell ⟨g, 11, none⟩ (.int .i64 (c5 + 1))).drew := But.trans G6 ⟨rfl, rfl, rfl, by simp [World.setCell, World.drew], fun k _ hk => Below.heap_setCell _ _ _ _ (fun e => hk (by rw [e]))⟩
      have H7 : Blk (w6.setCell ⟨g, 11, none⟩ (.int .i64 (c5 + 1))).drew g 59 (raL ver false false t1 nc xmt c0 c1 c2 c3 c4 (c5 + 1) c6 c7) := (H6.set 11 (.int .i64 (c5 + 1))).drew
      have L7 : Blk (w6.setCell ⟨g, 11, none⟩ (.int .i64 (c5 + 1))).drew w2.heap.size 40 (hdL 5 co qa qb qd qe) := (L6.but (but_setCell w6 g 11 _) (by omega)).drew
      have J7 : Blk (w6.setCell ⟨g, 11, none⟩ (.int .i64 (c5 + 1))).drew w1.heap.size 40 zH := (J6.but (but_setCell w6 g 11 _) (by omega)).drew
      clear H6 L6 J6 G6
      go_region
      all_goals
        generalize (w6.setCell ⟨g, 11, none⟩ (.int .i64 (c5 + 1))).drew = w7 at H7 L7 J7 B7 ⊢
        clear q1 q2 q3
        go_wp2_with (first
          | (refine wpl_load (by rfl) 40 _ (by rfl) w2.heap.size (by rfl) 40 _ L7 _ Try.underlying40 rfl _ sizeHeard (by rfl) ?_)
          | (refine wpl_store (by rfl) 40 _ _ (by rfl) w1.heap.size (by rfl) _ (by rfl) _ rfl 40 _ J7 (by rfl) _ sizeHeard (by rfl) (by simp [Value.oneCell']) ?_; intro w8 J8 s8 g8))
        obtain ⟨k0, k1, k2, k3, k4, k5⟩ := cells6 J8
        refine bodyPost_ret (v := .agg (hdL 5 co qa qb qd qe).toArray) (by simp [results, Try.results15, go_sem, k0, k1, k2, k3, k4, k5]) rfl ?_
        exact ⟨rfl, H7.but g8 (by omega), B7.new g8 (by omega)⟩
    · skip
      go_enter Try.func15, Try.ntmps15
      go_wp2_with (first
        | (refine wpl_alloc (by rfl) 40 (by rfl) (.agg (zH).toArray) (zH) zeroHeard rfl ?_; intro w3 L3 s3 b3; (have H3 := H2.below b3 (by omega)); (have J3 := J2.below b3 (by omega)); (have P3 := P2.below b3 (by omega)))
        | ((refine wpl_box (by rfl) 31 _ (by rfl) _ ([.int .i64 l, .int .i64 v, .int .i64 m, .int .i64 st, .int .i64 po, .int .i64 pr, .int .u32 rd, .int .u32 rp, .int .u32 id, .int .u64 ref, .int .u64 org, .int .u64 rec, .int .u64 xmt]) (by rfl) rfl ?_; intro w1 P1 s1 b1); (have H1 := H.below b1 hlt))
        | ((refine wpl_alloc (by rfl) 40 (by rfl) (.agg (zH).toArray) (zH) zeroHeard rfl ?_; intro w2 J2 s2 b2); (have H2 := H1.below b2 (by omega)); (have P2 := P1.below b2 (by omega)))
        | ((refine wpl_store (by rfl) 40 _ _ (by rfl) w2.heap.size (by rfl) _ (by rfl) _ rfl 40 _ L3 (by rfl) _ sizeHeard (by rfl) (by simp [Value.oneCell']) ?_; intro w4 L4 s4 g4); (have H4 := H3.but g4 (by omega)); (have J4 := J3.but g4 (by omega)); (have P4 := P3.but g4 (by omega)))
        | (refine wpl_load (by rfl) 31 _ (by rfl) w.heap.size (by rfl) 31 _ P4 _ Try.underlying31 rfl _ sizeNtp (by rfl) ?_)
        | (go_at_call 29; ((with_reducible refine (hC _).mono ?_); rintro e w5 ⟨rfl, b5⟩; (have H5 := H4.below b5 (by omega)); (have P5 := P4.below b5 (by omega)); (have J5 := J4.below b5 (by omega)); (have L5 := L4.below b5 (by omega)); (have z5 := b5.size)))
        | (go_at_call 26; ((with_reducible refine (hr _).mono ?_); rintro e w1 ⟨rfl, rfl⟩))
        | (refine wpl_loadf (by rfl) 3 _ (by rfl) w.heap.size 2 (by rfl) _ _ P5 _ rfl _ Try.underlying3 rfl ?_) | (refine wpl_loadf (by rfl) 4 _ (by rfl) g 1 (by rfl) _ _ H5 _ rfl _ Try.underlying4 rfl ?_) | (refine wpl_loadf (by rfl) 3 _ (by rfl) g 3 (by rfl) _ _ H5 _ rfl _ Try.underlying3 rfl ?_) | (refine wpl_loadf (by rfl) 4 _ (by rfl) g 2 (by rfl) _ _ H5 _ rfl _ Try.underlying4 rfl ?_)
        )
      have G5 : But g w w5 := ((((But.of_below b1 (Nat.le_refl _)).then b2 (by omega)).then b3 (by omega)).new g4 (by omega)).then b5 (by omega)
      clear P1 J2 H1 H2 P2 H3 J3 L3 P3 H4 J4 P4 L4 b1 b2 b3 g4 b5
      have q1 := P5.cell (i := 10) rfl
      have q2 := H5.cell (i := 4) rfl
      go_region_held3 (fun w' => w'.cell? ⟨w.heap.size, 10, none⟩ = some (.int .u64 org) ∧ w'.cell? ⟨g, 4, none⟩ = some (.int .u64 nc)) (exact ⟨q1, q2⟩) (fail)
      clear q1 q2
      have H5' := H5.drew
      have P5' := P5.drew
      have J5' := J5.drew
      have L5' := L5.drew
      have G5' : But g w w5.drew := ⟨G5.os, G5.tape, G5.output, G5.size, G5.block⟩
      have z5' : w4.heap.size ≤ w5.drew.heap.size := z5
      clear H5 P5 J5 L5 G5 z5
      generalize w5.drew = w5' at H5' P5' J5' L5' G5' z5' ⊢
      rename_i w5old
      have H5 := H5'
      have P5 := P5'
      have J5 := J5'
      have L5 := L5'
      have G5 := G5'
      have z5 := z5'
      clear H5' P5' J5' L5' G5' z5'
      go_wp2_with fail
      have q1 := P5.cell (i := 12) rfl
      have q2 := H5.cell (i := 5) rfl
      go_region_held3 (fun w' => w'.cell? ⟨w.heap.size, 12, none⟩ = some (.int .u64 xmt) ∧ w'.cell? ⟨g, 5, none⟩ = some (.int .u64 lx)) (exact ⟨q1, q2⟩) (fail)
      have H5' := H5.drew
      have P5' := P5.drew
      have J5' := J5.drew
      have L5' := L5.drew
      have G5' : But g w w5'.drew := ⟨G5.os, G5.tape, G5.output, G5.size, G5.block⟩
      have z5' : w4.heap.size ≤ w5'.drew.heap.size := z5
      clear H5 P5 J5 L5 G5 z5
      generalize w5'.drew = w5'' at H5' P5' J5' L5' G5' z5' ⊢
      have H5 := H5'
      have P5 := P5'
      have J5 := J5'
      have L5 := L5'
      have G5 := G5'
      have z5 := z5'
      clear H5' P5' J5' L5' G5' z5'
      clear q1 q2
      have hHE := fun W HW => hAC W HW
      go_wp2_with (first
        | (refine wpl_load (by rfl) 31 _ (by rfl) w.heap.size (by rfl) 31 _ P5 _ Try.underlying31 rfl _ sizeNtp (by rfl) ?_)
        | (go_at_call 30; ((with_reducible refine (hAC _ H5).mono ?_); rintro e x5 ⟨rfl, y5⟩; (have H8 := H5.below y5 (by omega)); (have P8 := P5.below y5 (by omega)); (have J8 := J5.below y5 (by omega)); (have L8 := L5.below y5 (by omega)); (have z8 := y5.size)))
        | ((refine wpl_store (by rfl) 40 _ _ (by rfl) w2.heap.size (by rfl) _ (by rfl) _ rfl 40 _ L8 (by rfl) _ sizeHeard (by rfl) (by simp [Value.oneCell']) ?_; intro x9 L9 s9 g9); (have H9 := H8.but g9 (by omega)); (have J9 := J8.but g9 (by omega)); (have P9 := P8.but g9 (by omega)))
        | ((refine wpl_storeg (by rfl) 4 _ _ (by rfl) g 2 (by rfl) (.bool false) (by rfl) (by rfl) (by simp [Value.oneCell']) _ _ (raL ver true false t1 nc lx c0 c1 c2 c3 c4 c5 c6 c7) H9 (by simp) sizeBool (by rfl) ?_; intro x10 H10 s10 g10); (have J10 := J9.but g10 (by omega)); (have P10 := P9.but g10 (by omega)); (have L10 := L9.but g10 (by omega)))
        | (refine wpl_loadf (by rfl) 28 _ (by rfl) w.heap.size 12 (by rfl) _ _ P10 _ rfl _ Try.underlying28 rfl ?_)
        | ((refine wpl_storeg (by rfl) 28 _ _ (by rfl) g 5 (by rfl) (.int .u64 xmt) (by rfl) (by rfl) (by simp [Value.oneCell']) _ _ (raL ver true false t1 nc xmt c0 c1 c2 c3 c4 c5 c6 c7) H10 (by simp) sizeU64 (by rfl) ?_; intro w6 H6 s6 g6); (have J6 := J10.but g6 (by omega)); (have L6 := L10.but g6 (by omega))))
      have G6 : But g w w6 := (((G5.then y5 (by omega)).new g9 (by omega)).trans g10).trans g6
      clear H5 L5 J5 P5 G5 g6 H8 P8 J8 L8 H9 J9 P9 L9 H10 J10 P10 L10 g9 g10 y5 hAC hHE
      have q1 := L6.cell (i := 0) rfl
      have q2 := H6.cell (i := 11) rfl
      have q3 := H6.frozen
      have B7 : But g w (w6.setCell ⟨g, 11, none⟩ (.int .i64 (c5 + 1))).drew := But.trans G6 ⟨rfl, rfl, rfl, by simp [World.setCell, World.drew], fun k _ hk => Below.heap_setCell _ _ _ _ (fun e => hk (by rw [e]))⟩
      have H7 : Blk (w6.setCell ⟨g, 11, none⟩ (.int .i64 (c5 + 1))).drew g 59 (raL ver true false t1 nc xmt c0 c1 c2 c3 c4 (c5 + 1) c6 c7) := (H6.set 11 (.int .i64 (c5 + 1))).drew
      have L7 : Blk (w6.setCell ⟨g, 11, none⟩ (.int .i64 (c5 + 1))).drew w2.heap.size 40 (hdL 5 co qa qb qd qe) := (L6.but (but_setCell w6 g 11 _) (by omega)).drew
      have J7 : Blk (w6.setCell ⟨g, 11, none⟩ (.int .i64 (c5 + 1))).drew w1.heap.size 40 zH := (J6.but (but_setCell w6 g 11 _) (by omega)).drew
      clear H6 L6 J6 G6
      go_region
      all_goals
        generalize (w6.setCell ⟨g, 11, none⟩ (.int .i64 (c5 + 1))).drew = w7 at H7 L7 J7 B7 ⊢
        clear q1 q2 q3
        go_wp2_with (first
          | (refine wpl_load (by rfl) 40 _ (by rfl) w2.heap.size (by rfl) 40 _ L7 _ Try.underlying40 rfl _ sizeHeard (by rfl) ?_)
          | (refine wpl_store (by rfl) 40 _ _ (by rfl) w1.heap.size (by rfl) _ (by rfl) _ rfl 40 _ J7 (by rfl) _ sizeHeard (by rfl) (by simp [Value.oneCell']) ?_; intro w8 J8 s8 g8))
        obtain ⟨k0, k1, k2, k3, k4, k5⟩ := cells6 J8
        refine bodyPost_ret (v := .agg (hdL 5 co qa qb qd qe).toArray) (by simp [results, Try.results15, go_sem, k0, k1, k2, k3, k4, k5]) rfl ?_
        exact ⟨rfl, H7.but g8 (by omega), B7.new g8 (by omega)⟩
set_option maxRecDepth 100000 in
set_option maxHeartbeats 8000000 in
theorem rrec_acc6 (g : Nat) (ver t1 nc : Int) (sn : Bool) (lx c0 c1 c2 c3 c4 c5 c6 c7 now l v m st po pr rd rp id ref org rec xmt : Int) (co : ByteArray) (qa qb qd qe : Int) (w : World) (H : Blk w g 59 (raL ver sn true t1 nc lx c0 c1 c2 c3 c4 c5 c6 c7)) (hc : CB c6) (hI : nc = 0 → t1 = 0) (hsn : sn = !decide (nc = 0)) (hb : badB (nchk l v m st po pr) m now nc t1 = false) (ho : org = nc) (hx : xmt = 0 ∨ xmt ≠ lx)
    (hAC : ∀ W, Blk W g 59 (raL ver sn true t1 nc lx c0 c1 c2 c3 c4 c5 c6 c7) → Calls Try.prog 30 #[.pointer (some ⟨g, 0, none⟩), ntp l v m st po pr rd rp id ref org rec xmt, .int .i64 now] W fun e w' => e = .returned (.agg (hdL 6 co qa qb qd qe).toArray) ∧ Below W.heap.size W w') :
    Calls Try.prog 15 #[.pointer (some ⟨g, 0, none⟩), ntp l v m st po pr rd rp id ref org rec xmt, .int .i64 now] w fun e w' => e = .returned (.agg (hdL 6 co qa qb qd qe).toArray) ∧ Blk w' g 59 (raL ver sn false t1 nc xmt c0 c1 c2 c3 c4 c5 (c6 + 1) c7) ∧ But g w w' := by
  have hr := fun W => rin_any now W
  have hC := fun W => rnchk_any l v m st po pr rd rp id ref org rec xmt W
  have hlt := H.lt
  have hcw : IntKind.i64.wrap (c6 + 1) = c6 + 1 := by rw [IntKind.wrap_i64]; omega
  obtain ⟨K, hK⟩ : ∃ K, K = nchk l v m st po pr := ⟨_, rfl⟩
  rw [← hK] at hb hC
  clear hK
  obtain ⟨hK0', hm4', h3, h4⟩ := rgood hI hsn hb
  simp only [h3] at hr
  clear hb hI hsn h3
  have ho' : (org != nc) = false := by simpa using ho
  clear ho
  by_cases hx0 : xmt = 0
  · have hx' : (xmt != 0) = false := by simpa using hx0
    clear hx hx0
    rcases h4 with rfl | ⟨rfl, h6⟩
    · skip
      go_enter Try.func15, Try.ntmps15
      go_wp2_with (first
        | (refine wpl_alloc (by rfl) 40 (by rfl) (.agg (zH).toArray) (zH) zeroHeard rfl ?_; intro w3 L3 s3 b3; (have H3 := H2.below b3 (by omega)); (have J3 := J2.below b3 (by omega)); (have P3 := P2.below b3 (by omega)))
        | ((refine wpl_box (by rfl) 31 _ (by rfl) _ ([.int .i64 l, .int .i64 v, .int .i64 m, .int .i64 st, .int .i64 po, .int .i64 pr, .int .u32 rd, .int .u32 rp, .int .u32 id, .int .u64 ref, .int .u64 org, .int .u64 rec, .int .u64 xmt]) (by rfl) rfl ?_; intro w1 P1 s1 b1); (have H1 := H.below b1 hlt))
        | ((refine wpl_alloc (by rfl) 40 (by rfl) (.agg (zH).toArray) (zH) zeroHeard rfl ?_; intro w2 J2 s2 b2); (have H2 := H1.below b2 (by omega)); (have P2 := P1.below b2 (by omega)))
        | ((refine wpl_store (by rfl) 40 _ _ (by rfl) w2.heap.size (by rfl) _ (by rfl) _ rfl 40 _ L3 (by rfl) _ sizeHeard (by rfl) (by simp [Value.oneCell']) ?_; intro w4 L4 s4 g4); (have H4 := H3.but g4 (by omega)); (have J4 := J3.but g4 (by omega)); (have P4 := P3.but g4 (by omega)))
        | (refine wpl_load (by rfl) 31 _ (by rfl) w.heap.size (by rfl) 31 _ P4 _ Try.underlying31 rfl _ sizeNtp (by rfl) ?_)
        | (go_at_call 29; ((with_reducible refine (hC _).mono ?_); rintro e w5 ⟨rfl, b5⟩; (have H5 := H4.below b5 (by omega)); (have P5 := P4.below b5 (by omega)); (have J5 := J4.below b5 (by omega)); (have L5 := L4.below b5 (by omega)); (have z5 := b5.size)))
        | (go_at_call 26; ((with_reducible refine (hr _).mono ?_); rintro e w1 ⟨rfl, rfl⟩))
        | (refine wpl_loadf (by rfl) 3 _ (by rfl) w.heap.size 2 (by rfl) _ _ P5 _ rfl _ Try.underlying3 rfl ?_) | (refine wpl_loadf (by rfl) 4 _ (by rfl) g 1 (by rfl) _ _ H5 _ rfl _ Try.underlying4 rfl ?_) | (refine wpl_loadf (by rfl) 3 _ (by rfl) g 3 (by rfl) _ _ H5 _ rfl _ Try.underlying3 rfl ?_) | (refine wpl_loadf (by rfl) 4 _ (by rfl) g 2 (by rfl) _ _ H5 _ rfl _ Try.underlying4 rfl ?_)
        )
      have G5 : But g w w5 := ((((But.of_below b1 (Nat.le_refl _)).then b2 (by omega)).then b3 (by omega)).new g4 (by omega)).then b5 (by omega)
      clear P1 J2 H1 H2 P2 H3 J3 L3 P3 H4 J4 P4 L4 b1 b2 b3 g4 b5
      have q1 := P5.cell (i := 10) rfl
      have q2 := H5.cell (i := 4) rfl
      go_region_held3 (fun w' => w'.cell? ⟨w.heap.size, 10, none⟩ = some (.int .u64 org) ∧ w'.cell? ⟨g, 4, none⟩ = some (.int .u64 nc)) (exact ⟨q1, q2⟩) (fail)
      clear q1 q2
      have H5' := H5.drew
      have P5' := P5.drew
      have J5' := J5.drew
      have L5' := L5.drew
      have G5' : But g w w5.drew := ⟨G5.os, G5.tape, G5.output, G5.size, G5.block⟩
      have z5' : w4.heap.size ≤ w5.drew.heap.size := z5
      clear H5 P5 J5 L5 G5 z5
      generalize w5.drew = w5' at H5' P5' J5' L5' G5' z5' ⊢
      rename_i w5old
      have H5 := H5'
      have P5 := P5'
      have J5 := J5'
      have L5 := L5'
      have G5 := G5'
      have z5 := z5'
      clear H5' P5' J5' L5' G5' z5'
      go_wp2_with fail
      have q1 := P5.cell (i := 12) rfl
      have q2 := H5.cell (i := 5) rfl
      go_quiet (fail)
      have H5' := H5.drewN nq
      have P5' := P5.drewN nq
      have J5' := J5.drewN nq
      have L5' := L5.drewN nq
      have G5' : But g w (w5'.drewN nq) := G5.then (below_drewN (Below.refl w.heap.size w5') nq) (Nat.le_refl _)
      have z5' : w4.heap.size ≤ (w5'.drewN nq).heap.size := z5
      clear H5 P5 J5 L5 G5 z5
      generalize w5'.drewN nq = w5'' at H5' P5' J5' L5' G5' z5' ⊢
      have H5 := H5'
      have P5 := P5'
      have J5 := J5'
      have L5 := L5'
      have G5 := G5'
      have z5 := z5'
      clear H5' P5' J5' L5' G5' z5'
      clear q1 q2
      have hHE := fun W HW => hAC W HW
      go_wp2_with (first
        | (refine wpl_load (by rfl) 31 _ (by rfl) w.heap.size (by rfl) 31 _ P5 _ Try.underlying31 rfl _ sizeNtp (by rfl) ?_)
        | (go_at_call 30; ((with_reducible refine (hAC _ H5).mono ?_); rintro e x5 ⟨rfl, y5⟩; (have H8 := H5.below y5 (by omega)); (have P8 := P5.below y5 (by omega)); (have J8 := J5.below y5 (by omega)); (have L8 := L5.below y5 (by omega)); (have z8 := y5.size)))
        | ((refine wpl_store (by rfl) 40 _ _ (by rfl) w2.heap.size (by rfl) _ (by rfl) _ rfl 40 _ L8 (by rfl) _ sizeHeard (by rfl) (by simp [Value.oneCell']) ?_; intro x9 L9 s9 g9); (have H9 := H8.but g9 (by omega)); (have J9 := J8.but g9 (by omega)); (have P9 := P8.but g9 (by omega)))
        | ((refine wpl_storeg (by rfl) 4 _ _ (by rfl) g 2 (by rfl) (.bool false) (by rfl) (by rfl) (by simp [Value.oneCell']) _ _ (raL ver false false t1 nc lx c0 c1 c2 c3 c4 c5 c6 c7) H9 (by simp) sizeBool (by rfl) ?_; intro x10 H10 s10 g10); (have J10 := J9.but g10 (by omega)); (have P10 := P9.but g10 (by omega)); (have L10 := L9.but g10 (by omega)))
        | (refine wpl_loadf (by rfl) 28 _ (by rfl) w.heap.size 12 (by rfl) _ _ P10 _ rfl _ Try.underlying28 rfl ?_)
        | ((refine wpl_storeg (by rfl) 28 _ _ (by rfl) g 5 (by rfl) (.int .u64 xmt) (by rfl) (by rfl) (by simp [Value.oneCell']) _ _ (raL ver false false t1 nc xmt c0 c1 c2 c3 c4 c5 c6 c7) H10 (by simp) sizeU64 (by rfl) ?_; intro w6 H6 s6 g6); (have J6 := J10.but g6 (by omega)); (have L6 := L10.but g6 (by omega))))
      have G6 : But g w w6 := (((G5.then y5 (by omega)).new g9 (by omega)).trans g10).trans g6
      clear H5 L5 J5 P5 G5 g6 H8 P8 J8 L8 H9 J9 P9 L9 H10 J10 P10 L10 g9 g10 y5 hAC hHE
      have q1 := L6.cell (i := 0) rfl
      have q2 := H6.cell (i := 12) rfl
      have q3 := H6.frozen
      have B7 : But g w (w6.setCell ⟨g, 12, none⟩ (.int .i64 (c6 + 1))).drew := But.trans G6 ⟨rfl, rfl, rfl, by simp [World.setCell, World.drew], fun k _ hk => Below.heap_setCell _ _ _ _ (fun e => hk (by rw [e]))⟩
      have H7 : Blk (w6.setCell ⟨g, 12, none⟩ (.int .i64 (c6 + 1))).drew g 59 (raL ver false false t1 nc xmt c0 c1 c2 c3 c4 c5 (c6 + 1) c7) := (H6.set 12 (.int .i64 (c6 + 1))).drew
      have L7 : Blk (w6.setCell ⟨g, 12, none⟩ (.int .i64 (c6 + 1))).drew w2.heap.size 40 (hdL 6 co qa qb qd qe) := (L6.but (but_setCell w6 g 12 _) (by omega)).drew
      have J7 : Blk (w6.setCell ⟨g, 12, none⟩ (.int .i64 (c6 + 1))).drew w1.heap.size 40 zH := (J6.but (but_setCell w6 g 12 _) (by omega)).drew
      clear H6 L6 J6 G6
      go_region
      all_goals
        generalize (w6.setCell ⟨g, 12, none⟩ (.int .i64 (c6 + 1))).drew = w7 at H7 L7 J7 B7 ⊢
        clear q1 q2 q3
        go_wp2_with (first
          | (refine wpl_load (by rfl) 40 _ (by rfl) w2.heap.size (by rfl) 40 _ L7 _ Try.underlying40 rfl _ sizeHeard (by rfl) ?_)
          | (refine wpl_store (by rfl) 40 _ _ (by rfl) w1.heap.size (by rfl) _ (by rfl) _ rfl 40 _ J7 (by rfl) _ sizeHeard (by rfl) (by simp [Value.oneCell']) ?_; intro w8 J8 s8 g8))
        obtain ⟨k0, k1, k2, k3, k4, k5⟩ := cells6 J8
        refine bodyPost_ret (v := .agg (hdL 6 co qa qb qd qe).toArray) (by simp [results, Try.results15, go_sem, k0, k1, k2, k3, k4, k5]) rfl ?_
        exact ⟨rfl, H7.but g8 (by omega), B7.new g8 (by omega)⟩
    · skip
      go_enter Try.func15, Try.ntmps15
      go_wp2_with (first
        | (refine wpl_alloc (by rfl) 40 (by rfl) (.agg (zH).toArray) (zH) zeroHeard rfl ?_; intro w3 L3 s3 b3; (have H3 := H2.below b3 (by omega)); (have J3 := J2.below b3 (by omega)); (have P3 := P2.below b3 (by omega)))
        | ((refine wpl_box (by rfl) 31 _ (by rfl) _ ([.int .i64 l, .int .i64 v, .int .i64 m, .int .i64 st, .int .i64 po, .int .i64 pr, .int .u32 rd, .int .u32 rp, .int .u32 id, .int .u64 ref, .int .u64 org, .int .u64 rec, .int .u64 xmt]) (by rfl) rfl ?_; intro w1 P1 s1 b1); (have H1 := H.below b1 hlt))
        | ((refine wpl_alloc (by rfl) 40 (by rfl) (.agg (zH).toArray) (zH) zeroHeard rfl ?_; intro w2 J2 s2 b2); (have H2 := H1.below b2 (by omega)); (have P2 := P1.below b2 (by omega)))
        | ((refine wpl_store (by rfl) 40 _ _ (by rfl) w2.heap.size (by rfl) _ (by rfl) _ rfl 40 _ L3 (by rfl) _ sizeHeard (by rfl) (by simp [Value.oneCell']) ?_; intro w4 L4 s4 g4); (have H4 := H3.but g4 (by omega)); (have J4 := J3.but g4 (by omega)); (have P4 := P3.but g4 (by omega)))
        | (refine wpl_load (by rfl) 31 _ (by rfl) w.heap.size (by rfl) 31 _ P4 _ Try.underlying31 rfl _ sizeNtp (by rfl) ?_)
        | (go_at_call 29; ((with_reducible refine (hC _).mono ?_); rintro e w5 ⟨rfl, b5⟩; (have H5 := H4.below b5 (by omega)); (have P5 := P4.below b5 (by omega)); (have J5 := J4.below b5 (by omega)); (have L5 := L4.below b5 (by omega)); (have z5 := b5.size)))
        | (go_at_call 26; ((with_reducible refine (hr _).mono ?_); rintro e w1 ⟨rfl, rfl⟩))
        | (refine wpl_loadf (by rfl) 3 _ (by rfl) w.heap.size 2 (by rfl) _ _ P5 _ rfl _ Try.underlying3 rfl ?_) | (refine wpl_loadf (by rfl) 4 _ (by rfl) g 1 (by rfl) _ _ H5 _ rfl _ Try.underlying4 rfl ?_) | (refine wpl_loadf (by rfl) 3 _ (by rfl) g 3 (by rfl) _ _ H5 _ rfl _ Try.underlying3 rfl ?_) | (refine wpl_loadf (by rfl) 4 _ (by rfl) g 2 (by rfl) _ _ H5 _ rfl _ Try.underlying4 rfl ?_)
        )
      have G5 : But g w w5 := ((((But.of_below b1 (Nat.le_refl _)).then b2 (by omega)).then b3 (by omega)).new g4 (by omega)).then b5 (by omega)
      clear P1 J2 H1 H2 P2 H3 J3 L3 P3 H4 J4 P4 L4 b1 b2 b3 g4 b5
      have q1 := P5.cell (i := 10) rfl
      have q2 := H5.cell (i := 4) rfl
      go_region_held3 (fun w' => w'.cell? ⟨w.heap.size, 10, none⟩ = some (.int .u64 org) ∧ w'.cell? ⟨g, 4, none⟩ = some (.int .u64 nc)) (exact ⟨q1, q2⟩) (fail)
      clear q1 q2
      have H5' := H5.drew
      have P5' := P5.drew
      have J5' := J5.drew
      have L5' := L5.drew
      have G5' : But g w w5.drew := ⟨G5.os, G5.tape, G5.output, G5.size, G5.block⟩
      have z5' : w4.heap.size ≤ w5.drew.heap.size := z5
      clear H5 P5 J5 L5 G5 z5
      generalize w5.drew = w5' at H5' P5' J5' L5' G5' z5' ⊢
      rename_i w5old
      have H5 := H5'
      have P5 := P5'
      have J5 := J5'
      have L5 := L5'
      have G5 := G5'
      have z5 := z5'
      clear H5' P5' J5' L5' G5' z5'
      go_wp2_with fail
      have q1 := P5.cell (i := 12) rfl
      have q2 := H5.cell (i := 5) rfl
      go_quiet (fail)
      have H5' := H5.drewN nq
      have P5' := P5.drewN nq
      have J5' := J5.drewN nq
      have L5' := L5.drewN nq
      have G5' : But g w (w5'.drewN nq) := G5.then (below_drewN (Below.refl w.heap.size w5') nq) (Nat.le_refl _)
      have z5' : w4.heap.size ≤ (w5'.drewN nq).heap.size := z5
      clear H5 P5 J5 L5 G5 z5
      generalize w5'.drewN nq = w5'' at H5' P5' J5' L5' G5' z5' ⊢
      have H5 := H5'
      have P5 := P5'
      have J5 := J5'
      have L5 := L5'
      have G5 := G5'
      have z5 := z5'
      clear H5' P5' J5' L5' G5' z5'
      clear q1 q2
      have hHE := fun W HW => hAC W HW
      go_wp2_with (first
        | (refine wpl_load (by rfl) 31 _ (by rfl) w.heap.size (by rfl) 31 _ P5 _ Try.underlying31 rfl _ sizeNtp (by rfl) ?_)
        | (go_at_call 30; ((with_reducible refine (hAC _ H5).mono ?_); rintro e x5 ⟨rfl, y5⟩; (have H8 := H5.below y5 (by omega)); (have P8 := P5.below y5 (by omega)); (have J8 := J5.below y5 (by omega)); (have L8 := L5.below y5 (by omega)); (have z8 := y5.size)))
        | ((refine wpl_store (by rfl) 40 _ _ (by rfl) w2.heap.size (by rfl) _ (by rfl) _ rfl 40 _ L8 (by rfl) _ sizeHeard (by rfl) (by simp [Value.oneCell']) ?_; intro x9 L9 s9 g9); (have H9 := H8.but g9 (by omega)); (have J9 := J8.but g9 (by omega)); (have P9 := P8.but g9 (by omega)))
        | ((refine wpl_storeg (by rfl) 4 _ _ (by rfl) g 2 (by rfl) (.bool false) (by rfl) (by rfl) (by simp [Value.oneCell']) _ _ (raL ver true false t1 nc lx c0 c1 c2 c3 c4 c5 c6 c7) H9 (by simp) sizeBool (by rfl) ?_; intro x10 H10 s10 g10); (have J10 := J9.but g10 (by omega)); (have P10 := P9.but g10 (by omega)); (have L10 := L9.but g10 (by omega)))
        | (refine wpl_loadf (by rfl) 28 _ (by rfl) w.heap.size 12 (by rfl) _ _ P10 _ rfl _ Try.underlying28 rfl ?_)
        | ((refine wpl_storeg (by rfl) 28 _ _ (by rfl) g 5 (by rfl) (.int .u64 xmt) (by rfl) (by rfl) (by simp [Value.oneCell']) _ _ (raL ver true false t1 nc xmt c0 c1 c2 c3 c4 c5 c6 c7) H10 (by simp) sizeU64 (by rfl) ?_; intro w6 H6 s6 g6); (have J6 := J10.but g6 (by omega)); (have L6 := L10.but g6 (by omega))))
      have G6 : But g w w6 := (((G5.then y5 (by omega)).new g9 (by omega)).trans g10).trans g6
      clear H5 L5 J5 P5 G5 g6 H8 P8 J8 L8 H9 J9 P9 L9 H10 J10 P10 L10 g9 g10 y5 hAC hHE
      have q1 := L6.cell (i := 0) rfl
      have q2 := H6.cell (i := 12) rfl
      have q3 := H6.frozen
      have B7 : But g w (w6.setCell ⟨g, 12, none⟩ (.int .i64 (c6 + 1))).drew := But.trans G6 ⟨rfl, rfl, rfl, by simp [World.setCell, World.drew], fun k _ hk => Below.heap_setCell _ _ _ _ (fun e => hk (by rw [e]))⟩
      have H7 : Blk (w6.setCell ⟨g, 12, none⟩ (.int .i64 (c6 + 1))).drew g 59 (raL ver true false t1 nc xmt c0 c1 c2 c3 c4 c5 (c6 + 1) c7) := (H6.set 12 (.int .i64 (c6 + 1))).drew
      have L7 : Blk (w6.setCell ⟨g, 12, none⟩ (.int .i64 (c6 + 1))).drew w2.heap.size 40 (hdL 6 co qa qb qd qe) := (L6.but (but_setCell w6 g 12 _) (by omega)).drew
      have J7 : Blk (w6.setCell ⟨g, 12, none⟩ (.int .i64 (c6 + 1))).drew w1.heap.size 40 zH := (J6.but (but_setCell w6 g 12 _) (by omega)).drew
      clear H6 L6 J6 G6
      go_region
      all_goals
        generalize (w6.setCell ⟨g, 12, none⟩ (.int .i64 (c6 + 1))).drew = w7 at H7 L7 J7 B7 ⊢
        clear q1 q2 q3
        go_wp2_with (first
          | (refine wpl_load (by rfl) 40 _ (by rfl) w2.heap.size (by rfl) 40 _ L7 _ Try.underlying40 rfl _ sizeHeard (by rfl) ?_)
          | (refine wpl_store (by rfl) 40 _ _ (by rfl) w1.heap.size (by rfl) _ (by rfl) _ rfl 40 _ J7 (by rfl) _ sizeHeard (by rfl) (by simp [Value.oneCell']) ?_; intro w8 J8 s8 g8))
        obtain ⟨k0, k1, k2, k3, k4, k5⟩ := cells6 J8
        refine bodyPost_ret (v := .agg (hdL 6 co qa qb qd qe).toArray) (by simp [results, Try.results15, go_sem, k0, k1, k2, k3, k4, k5]) rfl ?_
        exact ⟨rfl, H7.but g8 (by omega), B7.new g8 (by omega)⟩
  · have hx' : (xmt != 0) = true := by simpa using hx0
    have hl' : (xmt == lx) = false := by simp; omega
    clear hx hx0
    rcases h4 with rfl | ⟨rfl, h6⟩
    · skip
      go_enter Try.func15, Try.ntmps15
      go_wp2_with (first
        | (refine wpl_alloc (by rfl) 40 (by rfl) (.agg (zH).toArray) (zH) zeroHeard rfl ?_; intro w3 L3 s3 b3; (have H3 := H2.below b3 (by omega)); (have J3 := J2.below b3 (by omega)); (have P3 := P2.below b3 (by omega)))
        | ((refine wpl_box (by rfl) 31 _ (by rfl) _ ([.int .i64 l, .int .i64 v, .int .i64 m, .int .i64 st, .int .i64 po, .int .i64 pr, .int .u32 rd, .int .u32 rp, .int .u32 id, .int .u64 ref, .int .u64 org, .int .u64 rec, .int .u64 xmt]) (by rfl) rfl ?_; intro w1 P1 s1 b1); (have H1 := H.below b1 hlt))
        | ((refine wpl_alloc (by rfl) 40 (by rfl) (.agg (zH).toArray) (zH) zeroHeard rfl ?_; intro w2 J2 s2 b2); (have H2 := H1.below b2 (by omega)); (have P2 := P1.below b2 (by omega)))
        | ((refine wpl_store (by rfl) 40 _ _ (by rfl) w2.heap.size (by rfl) _ (by rfl) _ rfl 40 _ L3 (by rfl) _ sizeHeard (by rfl) (by simp [Value.oneCell']) ?_; intro w4 L4 s4 g4); (have H4 := H3.but g4 (by omega)); (have J4 := J3.but g4 (by omega)); (have P4 := P3.but g4 (by omega)))
        | (refine wpl_load (by rfl) 31 _ (by rfl) w.heap.size (by rfl) 31 _ P4 _ Try.underlying31 rfl _ sizeNtp (by rfl) ?_)
        | (go_at_call 29; ((with_reducible refine (hC _).mono ?_); rintro e w5 ⟨rfl, b5⟩; (have H5 := H4.below b5 (by omega)); (have P5 := P4.below b5 (by omega)); (have J5 := J4.below b5 (by omega)); (have L5 := L4.below b5 (by omega)); (have z5 := b5.size)))
        | (go_at_call 26; ((with_reducible refine (hr _).mono ?_); rintro e w1 ⟨rfl, rfl⟩))
        | (refine wpl_loadf (by rfl) 3 _ (by rfl) w.heap.size 2 (by rfl) _ _ P5 _ rfl _ Try.underlying3 rfl ?_) | (refine wpl_loadf (by rfl) 4 _ (by rfl) g 1 (by rfl) _ _ H5 _ rfl _ Try.underlying4 rfl ?_) | (refine wpl_loadf (by rfl) 3 _ (by rfl) g 3 (by rfl) _ _ H5 _ rfl _ Try.underlying3 rfl ?_) | (refine wpl_loadf (by rfl) 4 _ (by rfl) g 2 (by rfl) _ _ H5 _ rfl _ Try.underlying4 rfl ?_)
        )
      have G5 : But g w w5 := ((((But.of_below b1 (Nat.le_refl _)).then b2 (by omega)).then b3 (by omega)).new g4 (by omega)).then b5 (by omega)
      clear P1 J2 H1 H2 P2 H3 J3 L3 P3 H4 J4 P4 L4 b1 b2 b3 g4 b5
      have q1 := P5.cell (i := 10) rfl
      have q2 := H5.cell (i := 4) rfl
      go_region_held3 (fun w' => w'.cell? ⟨w.heap.size, 10, none⟩ = some (.int .u64 org) ∧ w'.cell? ⟨g, 4, none⟩ = some (.int .u64 nc)) (exact ⟨q1, q2⟩) (fail)
      clear q1 q2
      have H5' := H5.drew
      have P5' := P5.drew
      have J5' := J5.drew
      have L5' := L5.drew
      have G5' : But g w w5.drew := ⟨G5.os, G5.tape, G5.output, G5.size, G5.block⟩
      have z5' : w4.heap.size ≤ w5.drew.heap.size := z5
      clear H5 P5 J5 L5 G5 z5
      generalize w5.drew = w5' at H5' P5' J5' L5' G5' z5' ⊢
      rename_i w5old
      have H5 := H5'
      have P5 := P5'
      have J5 := J5'
      have L5 := L5'
      have G5 := G5'
      have z5 := z5'
      clear H5' P5' J5' L5' G5' z5'
      go_wp2_with fail
      have q1 := P5.cell (i := 12) rfl
      have q2 := H5.cell (i := 5) rfl
      go_region_held3 (fun w' => w'.cell? ⟨w.heap.size, 12, none⟩ = some (.int .u64 xmt) ∧ w'.cell? ⟨g, 5, none⟩ = some (.int .u64 lx)) (exact ⟨q1, q2⟩) (fail)
      have H5' := H5.drew
      have P5' := P5.drew
      have J5' := J5.drew
      have L5' := L5.drew
      have G5' : But g w w5'.drew := ⟨G5.os, G5.tape, G5.output, G5.size, G5.block⟩
      have z5' : w4.heap.size ≤ w5'.drew.heap.size := z5
      clear H5 P5 J5 L5 G5 z5
      generalize w5'.drew = w5'' at H5' P5' J5' L5' G5' z5' ⊢
      have H5 := H5'
      have P5 := P5'
      have J5 := J5'
      have L5 := L5'
      have G5 := G5'
      have z5 := z5'
      clear H5' P5' J5' L5' G5' z5'
      clear q1 q2
      have hHE := fun W HW => hAC W HW
      go_wp2_with (first
        | (refine wpl_load (by rfl) 31 _ (by rfl) w.heap.size (by rfl) 31 _ P5 _ Try.underlying31 rfl _ sizeNtp (by rfl) ?_)
        | (go_at_call 30; ((with_reducible refine (hAC _ H5).mono ?_); rintro e x5 ⟨rfl, y5⟩; (have H8 := H5.below y5 (by omega)); (have P8 := P5.below y5 (by omega)); (have J8 := J5.below y5 (by omega)); (have L8 := L5.below y5 (by omega)); (have z8 := y5.size)))
        | ((refine wpl_store (by rfl) 40 _ _ (by rfl) w2.heap.size (by rfl) _ (by rfl) _ rfl 40 _ L8 (by rfl) _ sizeHeard (by rfl) (by simp [Value.oneCell']) ?_; intro x9 L9 s9 g9); (have H9 := H8.but g9 (by omega)); (have J9 := J8.but g9 (by omega)); (have P9 := P8.but g9 (by omega)))
        | ((refine wpl_storeg (by rfl) 4 _ _ (by rfl) g 2 (by rfl) (.bool false) (by rfl) (by rfl) (by simp [Value.oneCell']) _ _ (raL ver false false t1 nc lx c0 c1 c2 c3 c4 c5 c6 c7) H9 (by simp) sizeBool (by rfl) ?_; intro x10 H10 s10 g10); (have J10 := J9.but g10 (by omega)); (have P10 := P9.but g10 (by omega)); (have L10 := L9.but g10 (by omega)))
        | (refine wpl_loadf (by rfl) 28 _ (by rfl) w.heap.size 12 (by rfl) _ _ P10 _ rfl _ Try.underlying28 rfl ?_)
        | ((refine wpl_storeg (by rfl) 28 _ _ (by rfl) g 5 (by rfl) (.int .u64 xmt) (by rfl) (by rfl) (by simp [Value.oneCell']) _ _ (raL ver false false t1 nc xmt c0 c1 c2 c3 c4 c5 c6 c7) H10 (by simp) sizeU64 (by rfl) ?_; intro w6 H6 s6 g6); (have J6 := J10.but g6 (by omega)); (have L6 := L10.but g6 (by omega))))
      have G6 : But g w w6 := (((G5.then y5 (by omega)).new g9 (by omega)).trans g10).trans g6
      clear H5 L5 J5 P5 G5 g6 H8 P8 J8 L8 H9 J9 P9 L9 H10 J10 P10 L10 g9 g10 y5 hAC hHE
      have q1 := L6.cell (i := 0) rfl
      have q2 := H6.cell (i := 12) rfl
      have q3 := H6.frozen
      have B7 : But g w (w6.setCell ⟨g, 12, none⟩ (.int .i64 (c6 + 1))).drew := But.trans G6 ⟨rfl, rfl, rfl, by simp [World.setCell, World.drew], fun k _ hk => Below.heap_setCell _ _ _ _ (fun e => hk (by rw [e]))⟩
      have H7 : Blk (w6.setCell ⟨g, 12, none⟩ (.int .i64 (c6 + 1))).drew g 59 (raL ver false false t1 nc xmt c0 c1 c2 c3 c4 c5 (c6 + 1) c7) := (H6.set 12 (.int .i64 (c6 + 1))).drew
      have L7 : Blk (w6.setCell ⟨g, 12, none⟩ (.int .i64 (c6 + 1))).drew w2.heap.size 40 (hdL 6 co qa qb qd qe) := (L6.but (but_setCell w6 g 12 _) (by omega)).drew
      have J7 : Blk (w6.setCell ⟨g, 12, none⟩ (.int .i64 (c6 + 1))).drew w1.heap.size 40 zH := (J6.but (but_setCell w6 g 12 _) (by omega)).drew
      clear H6 L6 J6 G6
      go_region
      all_goals
        generalize (w6.setCell ⟨g, 12, none⟩ (.int .i64 (c6 + 1))).drew = w7 at H7 L7 J7 B7 ⊢
        clear q1 q2 q3
        go_wp2_with (first
          | (refine wpl_load (by rfl) 40 _ (by rfl) w2.heap.size (by rfl) 40 _ L7 _ Try.underlying40 rfl _ sizeHeard (by rfl) ?_)
          | (refine wpl_store (by rfl) 40 _ _ (by rfl) w1.heap.size (by rfl) _ (by rfl) _ rfl 40 _ J7 (by rfl) _ sizeHeard (by rfl) (by simp [Value.oneCell']) ?_; intro w8 J8 s8 g8))
        obtain ⟨k0, k1, k2, k3, k4, k5⟩ := cells6 J8
        refine bodyPost_ret (v := .agg (hdL 6 co qa qb qd qe).toArray) (by simp [results, Try.results15, go_sem, k0, k1, k2, k3, k4, k5]) rfl ?_
        exact ⟨rfl, H7.but g8 (by omega), B7.new g8 (by omega)⟩
    · skip
      go_enter Try.func15, Try.ntmps15
      go_wp2_with (first
        | (refine wpl_alloc (by rfl) 40 (by rfl) (.agg (zH).toArray) (zH) zeroHeard rfl ?_; intro w3 L3 s3 b3; (have H3 := H2.below b3 (by omega)); (have J3 := J2.below b3 (by omega)); (have P3 := P2.below b3 (by omega)))
        | ((refine wpl_box (by rfl) 31 _ (by rfl) _ ([.int .i64 l, .int .i64 v, .int .i64 m, .int .i64 st, .int .i64 po, .int .i64 pr, .int .u32 rd, .int .u32 rp, .int .u32 id, .int .u64 ref, .int .u64 org, .int .u64 rec, .int .u64 xmt]) (by rfl) rfl ?_; intro w1 P1 s1 b1); (have H1 := H.below b1 hlt))
        | ((refine wpl_alloc (by rfl) 40 (by rfl) (.agg (zH).toArray) (zH) zeroHeard rfl ?_; intro w2 J2 s2 b2); (have H2 := H1.below b2 (by omega)); (have P2 := P1.below b2 (by omega)))
        | ((refine wpl_store (by rfl) 40 _ _ (by rfl) w2.heap.size (by rfl) _ (by rfl) _ rfl 40 _ L3 (by rfl) _ sizeHeard (by rfl) (by simp [Value.oneCell']) ?_; intro w4 L4 s4 g4); (have H4 := H3.but g4 (by omega)); (have J4 := J3.but g4 (by omega)); (have P4 := P3.but g4 (by omega)))
        | (refine wpl_load (by rfl) 31 _ (by rfl) w.heap.size (by rfl) 31 _ P4 _ Try.underlying31 rfl _ sizeNtp (by rfl) ?_)
        | (go_at_call 29; ((with_reducible refine (hC _).mono ?_); rintro e w5 ⟨rfl, b5⟩; (have H5 := H4.below b5 (by omega)); (have P5 := P4.below b5 (by omega)); (have J5 := J4.below b5 (by omega)); (have L5 := L4.below b5 (by omega)); (have z5 := b5.size)))
        | (go_at_call 26; ((with_reducible refine (hr _).mono ?_); rintro e w1 ⟨rfl, rfl⟩))
        | (refine wpl_loadf (by rfl) 3 _ (by rfl) w.heap.size 2 (by rfl) _ _ P5 _ rfl _ Try.underlying3 rfl ?_) | (refine wpl_loadf (by rfl) 4 _ (by rfl) g 1 (by rfl) _ _ H5 _ rfl _ Try.underlying4 rfl ?_) | (refine wpl_loadf (by rfl) 3 _ (by rfl) g 3 (by rfl) _ _ H5 _ rfl _ Try.underlying3 rfl ?_) | (refine wpl_loadf (by rfl) 4 _ (by rfl) g 2 (by rfl) _ _ H5 _ rfl _ Try.underlying4 rfl ?_)
        )
      have G5 : But g w w5 := ((((But.of_below b1 (Nat.le_refl _)).then b2 (by omega)).then b3 (by omega)).new g4 (by omega)).then b5 (by omega)
      clear P1 J2 H1 H2 P2 H3 J3 L3 P3 H4 J4 P4 L4 b1 b2 b3 g4 b5
      have q1 := P5.cell (i := 10) rfl
      have q2 := H5.cell (i := 4) rfl
      go_region_held3 (fun w' => w'.cell? ⟨w.heap.size, 10, none⟩ = some (.int .u64 org) ∧ w'.cell? ⟨g, 4, none⟩ = some (.int .u64 nc)) (exact ⟨q1, q2⟩) (fail)
      clear q1 q2
      have H5' := H5.drew
      have P5' := P5.drew
      have J5' := J5.drew
      have L5' := L5.drew
      have G5' : But g w w5.drew := ⟨G5.os, G5.tape, G5.output, G5.size, G5.block⟩
      have z5' : w4.heap.size ≤ w5.drew.heap.size := z5
      clear H5 P5 J5 L5 G5 z5
      generalize w5.drew = w5' at H5' P5' J5' L5' G5' z5' ⊢
      rename_i w5old
      have H5 := H5'
      have P5 := P5'
      have J5 := J5'
      have L5 := L5'
      have G5 := G5'
      have z5 := z5'
      clear H5' P5' J5' L5' G5' z5'
      go_wp2_with fail
      have q1 := P5.cell (i := 12) rfl
      have q2 := H5.cell (i := 5) rfl
      go_region_held3 (fun w' => w'.cell? ⟨w.heap.size, 12, none⟩ = some (.int .u64 xmt) ∧ w'.cell? ⟨g, 5, none⟩ = some (.int .u64 lx)) (exact ⟨q1, q2⟩) (fail)
      have H5' := H5.drew
      have P5' := P5.drew
      have J5' := J5.drew
      have L5' := L5.drew
      have G5' : But g w w5'.drew := ⟨G5.os, G5.tape, G5.output, G5.size, G5.block⟩
      have z5' : w4.heap.size ≤ w5'.drew.heap.size := z5
      clear H5 P5 J5 L5 G5 z5
      generalize w5'.drew = w5'' at H5' P5' J5' L5' G5' z5' ⊢
      have H5 := H5'
      have P5 := P5'
      have J5 := J5'
      have L5 := L5'
      have G5 := G5'
      have z5 := z5'
      clear H5' P5' J5' L5' G5' z5'
      clear q1 q2
      have hHE := fun W HW => hAC W HW
      go_wp2_with (first
        | (refine wpl_load (by rfl) 31 _ (by rfl) w.heap.size (by rfl) 31 _ P5 _ Try.underlying31 rfl _ sizeNtp (by rfl) ?_)
        | (go_at_call 30; ((with_reducible refine (hAC _ H5).mono ?_); rintro e x5 ⟨rfl, y5⟩; (have H8 := H5.below y5 (by omega)); (have P8 := P5.below y5 (by omega)); (have J8 := J5.below y5 (by omega)); (have L8 := L5.below y5 (by omega)); (have z8 := y5.size)))
        | ((refine wpl_store (by rfl) 40 _ _ (by rfl) w2.heap.size (by rfl) _ (by rfl) _ rfl 40 _ L8 (by rfl) _ sizeHeard (by rfl) (by simp [Value.oneCell']) ?_; intro x9 L9 s9 g9); (have H9 := H8.but g9 (by omega)); (have J9 := J8.but g9 (by omega)); (have P9 := P8.but g9 (by omega)))
        | ((refine wpl_storeg (by rfl) 4 _ _ (by rfl) g 2 (by rfl) (.bool false) (by rfl) (by rfl) (by simp [Value.oneCell']) _ _ (raL ver true false t1 nc lx c0 c1 c2 c3 c4 c5 c6 c7) H9 (by simp) sizeBool (by rfl) ?_; intro x10 H10 s10 g10); (have J10 := J9.but g10 (by omega)); (have P10 := P9.but g10 (by omega)); (have L10 := L9.but g10 (by omega)))
        | (refine wpl_loadf (by rfl) 28 _ (by rfl) w.heap.size 12 (by rfl) _ _ P10 _ rfl _ Try.underlying28 rfl ?_)
        | ((refine wpl_storeg (by rfl) 28 _ _ (by rfl) g 5 (by rfl) (.int .u64 xmt) (by rfl) (by rfl) (by simp [Value.oneCell']) _ _ (raL ver true false t1 nc xmt c0 c1 c2 c3 c4 c5 c6 c7) H10 (by simp) sizeU64 (by rfl) ?_; intro w6 H6 s6 g6); (have J6 := J10.but g6 (by omega)); (have L6 := L10.but g6 (by omega))))
      have G6 : But g w w6 := (((G5.then y5 (by omega)).new g9 (by omega)).trans g10).trans g6
      clear H5 L5 J5 P5 G5 g6 H8 P8 J8 L8 H9 J9 P9 L9 H10 J10 P10 L10 g9 g10 y5 hAC hHE
      have q1 := L6.cell (i := 0) rfl
      have q2 := H6.cell (i := 12) rfl
      have q3 := H6.frozen
      have B7 : But g w (w6.setCell ⟨g, 12, none⟩ (.int .i64 (c6 + 1))).drew := But.trans G6 ⟨rfl, rfl, rfl, by simp [World.setCell, World.drew], fun k _ hk => Below.heap_setCell _ _ _ _ (fun e => hk (by rw [e]))⟩
      have H7 : Blk (w6.setCell ⟨g, 12, none⟩ (.int .i64 (c6 + 1))).drew g 59 (raL ver true false t1 nc xmt c0 c1 c2 c3 c4 c5 (c6 + 1) c7) := (H6.set 12 (.int .i64 (c6 + 1))).drew
      have L7 : Blk (w6.setCell ⟨g, 12, none⟩ (.int .i64 (c6 + 1))).drew w2.heap.size 40 (hdL 6 co qa qb qd qe) := (L6.but (but_setCell w6 g 12 _) (by omega)).drew
      have J7 : Blk (w6.setCell ⟨g, 12, none⟩ (.int .i64 (c6 + 1))).drew w1.heap.size 40 zH := (J6.but (but_setCell w6 g 12 _) (by omega)).drew
      clear H6 L6 J6 G6
      go_region
      all_goals
        generalize (w6.setCell ⟨g, 12, none⟩ (.int .i64 (c6 + 1))).drew = w7 at H7 L7 J7 B7 ⊢
        clear q1 q2 q3
        go_wp2_with (first
          | (refine wpl_load (by rfl) 40 _ (by rfl) w2.heap.size (by rfl) 40 _ L7 _ Try.underlying40 rfl _ sizeHeard (by rfl) ?_)
          | (refine wpl_store (by rfl) 40 _ _ (by rfl) w1.heap.size (by rfl) _ (by rfl) _ rfl 40 _ J7 (by rfl) _ sizeHeard (by rfl) (by simp [Value.oneCell']) ?_; intro w8 J8 s8 g8))
        obtain ⟨k0, k1, k2, k3, k4, k5⟩ := cells6 J8
        refine bodyPost_ret (v := .agg (hdL 6 co qa qb qd qe).toArray) (by simp [results, Try.results15, go_sem, k0, k1, k2, k3, k4, k5]) rfl ?_
        exact ⟨rfl, H7.but g8 (by omega), B7.new g8 (by omega)⟩
set_option maxRecDepth 100000 in
set_option maxHeartbeats 8000000 in
theorem rrec_acc7 (g : Nat) (ver t1 nc : Int) (sn : Bool) (lx c0 c1 c2 c3 c4 c5 c6 c7 now l v m st po pr rd rp id ref org rec xmt : Int) (co : ByteArray) (qa qb qd qe : Int) (w : World) (H : Blk w g 59 (raL ver sn true t1 nc lx c0 c1 c2 c3 c4 c5 c6 c7)) (hc : CB c7) (hI : nc = 0 → t1 = 0) (hsn : sn = !decide (nc = 0)) (hb : badB (nchk l v m st po pr) m now nc t1 = false) (ho : org = nc) (hx : xmt = 0 ∨ xmt ≠ lx)
    (hAC : ∀ W, Blk W g 59 (raL ver sn true t1 nc lx c0 c1 c2 c3 c4 c5 c6 c7) → Calls Try.prog 30 #[.pointer (some ⟨g, 0, none⟩), ntp l v m st po pr rd rp id ref org rec xmt, .int .i64 now] W fun e w' => e = .returned (.agg (hdL 7 co qa qb qd qe).toArray) ∧ Below W.heap.size W w') :
    Calls Try.prog 15 #[.pointer (some ⟨g, 0, none⟩), ntp l v m st po pr rd rp id ref org rec xmt, .int .i64 now] w fun e w' => e = .returned (.agg (hdL 7 co qa qb qd qe).toArray) ∧ Blk w' g 59 (raL ver sn false t1 nc xmt c0 c1 c2 c3 c4 c5 c6 (c7 + 1)) ∧ But g w w' := by
  have hr := fun W => rin_any now W
  have hC := fun W => rnchk_any l v m st po pr rd rp id ref org rec xmt W
  have hlt := H.lt
  have hcw : IntKind.i64.wrap (c7 + 1) = c7 + 1 := by rw [IntKind.wrap_i64]; omega
  obtain ⟨K, hK⟩ : ∃ K, K = nchk l v m st po pr := ⟨_, rfl⟩
  rw [← hK] at hb hC
  clear hK
  obtain ⟨hK0', hm4', h3, h4⟩ := rgood hI hsn hb
  simp only [h3] at hr
  clear hb hI hsn h3
  have ho' : (org != nc) = false := by simpa using ho
  clear ho
  by_cases hx0 : xmt = 0
  · have hx' : (xmt != 0) = false := by simpa using hx0
    clear hx hx0
    rcases h4 with rfl | ⟨rfl, h6⟩
    · skip
      go_enter Try.func15, Try.ntmps15
      go_wp2_with (first
        | (refine wpl_alloc (by rfl) 40 (by rfl) (.agg (zH).toArray) (zH) zeroHeard rfl ?_; intro w3 L3 s3 b3; (have H3 := H2.below b3 (by omega)); (have J3 := J2.below b3 (by omega)); (have P3 := P2.below b3 (by omega)))
        | ((refine wpl_box (by rfl) 31 _ (by rfl) _ ([.int .i64 l, .int .i64 v, .int .i64 m, .int .i64 st, .int .i64 po, .int .i64 pr, .int .u32 rd, .int .u32 rp, .int .u32 id, .int .u64 ref, .int .u64 org, .int .u64 rec, .int .u64 xmt]) (by rfl) rfl ?_; intro w1 P1 s1 b1); (have H1 := H.below b1 hlt))
        | ((refine wpl_alloc (by rfl) 40 (by rfl) (.agg (zH).toArray) (zH) zeroHeard rfl ?_; intro w2 J2 s2 b2); (have H2 := H1.below b2 (by omega)); (have P2 := P1.below b2 (by omega)))
        | ((refine wpl_store (by rfl) 40 _ _ (by rfl) w2.heap.size (by rfl) _ (by rfl) _ rfl 40 _ L3 (by rfl) _ sizeHeard (by rfl) (by simp [Value.oneCell']) ?_; intro w4 L4 s4 g4); (have H4 := H3.but g4 (by omega)); (have J4 := J3.but g4 (by omega)); (have P4 := P3.but g4 (by omega)))
        | (refine wpl_load (by rfl) 31 _ (by rfl) w.heap.size (by rfl) 31 _ P4 _ Try.underlying31 rfl _ sizeNtp (by rfl) ?_)
        | (go_at_call 29; ((with_reducible refine (hC _).mono ?_); rintro e w5 ⟨rfl, b5⟩; (have H5 := H4.below b5 (by omega)); (have P5 := P4.below b5 (by omega)); (have J5 := J4.below b5 (by omega)); (have L5 := L4.below b5 (by omega)); (have z5 := b5.size)))
        | (go_at_call 26; ((with_reducible refine (hr _).mono ?_); rintro e w1 ⟨rfl, rfl⟩))
        | (refine wpl_loadf (by rfl) 3 _ (by rfl) w.heap.size 2 (by rfl) _ _ P5 _ rfl _ Try.underlying3 rfl ?_) | (refine wpl_loadf (by rfl) 4 _ (by rfl) g 1 (by rfl) _ _ H5 _ rfl _ Try.underlying4 rfl ?_) | (refine wpl_loadf (by rfl) 3 _ (by rfl) g 3 (by rfl) _ _ H5 _ rfl _ Try.underlying3 rfl ?_) | (refine wpl_loadf (by rfl) 4 _ (by rfl) g 2 (by rfl) _ _ H5 _ rfl _ Try.underlying4 rfl ?_)
        )
      have G5 : But g w w5 := ((((But.of_below b1 (Nat.le_refl _)).then b2 (by omega)).then b3 (by omega)).new g4 (by omega)).then b5 (by omega)
      clear P1 J2 H1 H2 P2 H3 J3 L3 P3 H4 J4 P4 L4 b1 b2 b3 g4 b5
      have q1 := P5.cell (i := 10) rfl
      have q2 := H5.cell (i := 4) rfl
      go_region_held3 (fun w' => w'.cell? ⟨w.heap.size, 10, none⟩ = some (.int .u64 org) ∧ w'.cell? ⟨g, 4, none⟩ = some (.int .u64 nc)) (exact ⟨q1, q2⟩) (fail)
      clear q1 q2
      have H5' := H5.drew
      have P5' := P5.drew
      have J5' := J5.drew
      have L5' := L5.drew
      have G5' : But g w w5.drew := ⟨G5.os, G5.tape, G5.output, G5.size, G5.block⟩
      have z5' : w4.heap.size ≤ w5.drew.heap.size := z5
      clear H5 P5 J5 L5 G5 z5
      generalize w5.drew = w5' at H5' P5' J5' L5' G5' z5' ⊢
      rename_i w5old
      have H5 := H5'
      have P5 := P5'
      have J5 := J5'
      have L5 := L5'
      have G5 := G5'
      have z5 := z5'
      clear H5' P5' J5' L5' G5' z5'
      go_wp2_with fail
      have q1 := P5.cell (i := 12) rfl
      have q2 := H5.cell (i := 5) rfl
      go_quiet (fail)
      have H5' := H5.drewN nq
      have P5' := P5.drewN nq
      have J5' := J5.drewN nq
      have L5' := L5.drewN nq
      have G5' : But g w (w5'.drewN nq) := G5.then (below_drewN (Below.refl w.heap.size w5') nq) (Nat.le_refl _)
      have z5' : w4.heap.size ≤ (w5'.drewN nq).heap.size := z5
      clear H5 P5 J5 L5 G5 z5
      generalize w5'.drewN nq = w5'' at H5' P5' J5' L5' G5' z5' ⊢
      have H5 := H5'
      have P5 := P5'
      have J5 := J5'
      have L5 := L5'
      have G5 := G5'
      have z5 := z5'
      clear H5' P5' J5' L5' G5' z5'
      clear q1 q2
      have hHE := fun W HW => hAC W HW
      go_wp2_with (first
        | (refine wpl_load (by rfl) 31 _ (by rfl) w.heap.size (by rfl) 31 _ P5 _ Try.underlying31 rfl _ sizeNtp (by rfl) ?_)
        | (go_at_call 30; ((with_reducible refine (hAC _ H5).mono ?_); rintro e x5 ⟨rfl, y5⟩; (have H8 := H5.below y5 (by omega)); (have P8 := P5.below y5 (by omega)); (have J8 := J5.below y5 (by omega)); (have L8 := L5.below y5 (by omega)); (have z8 := y5.size)))
        | ((refine wpl_store (by rfl) 40 _ _ (by rfl) w2.heap.size (by rfl) _ (by rfl) _ rfl 40 _ L8 (by rfl) _ sizeHeard (by rfl) (by simp [Value.oneCell']) ?_; intro x9 L9 s9 g9); (have H9 := H8.but g9 (by omega)); (have J9 := J8.but g9 (by omega)); (have P9 := P8.but g9 (by omega)))
        | ((refine wpl_storeg (by rfl) 4 _ _ (by rfl) g 2 (by rfl) (.bool false) (by rfl) (by rfl) (by simp [Value.oneCell']) _ _ (raL ver false false t1 nc lx c0 c1 c2 c3 c4 c5 c6 c7) H9 (by simp) sizeBool (by rfl) ?_; intro x10 H10 s10 g10); (have J10 := J9.but g10 (by omega)); (have P10 := P9.but g10 (by omega)); (have L10 := L9.but g10 (by omega)))
        | (refine wpl_loadf (by rfl) 28 _ (by rfl) w.heap.size 12 (by rfl) _ _ P10 _ rfl _ Try.underlying28 rfl ?_)
        | ((refine wpl_storeg (by rfl) 28 _ _ (by rfl) g 5 (by rfl) (.int .u64 xmt) (by rfl) (by rfl) (by simp [Value.oneCell']) _ _ (raL ver false false t1 nc xmt c0 c1 c2 c3 c4 c5 c6 c7) H10 (by simp) sizeU64 (by rfl) ?_; intro w6 H6 s6 g6); (have J6 := J10.but g6 (by omega)); (have L6 := L10.but g6 (by omega))))
      have G6 : But g w w6 := (((G5.then y5 (by omega)).new g9 (by omega)).trans g10).trans g6
      clear H5 L5 J5 P5 G5 g6 H8 P8 J8 L8 H9 J9 P9 L9 H10 J10 P10 L10 g9 g10 y5 hAC hHE
      have q1 := L6.cell (i := 0) rfl
      have q2 := H6.cell (i := 13) rfl
      have q3 := H6.frozen
      have B7 : But g w (w6.setCell ⟨g, 13, none⟩ (.int .i64 (c7 + 1))).drew := But.trans G6 ⟨rfl, rfl, rfl, by simp [World.setCell, World.drew], fun k _ hk => Below.heap_setCell _ _ _ _ (fun e => hk (by rw [e]))⟩
      have H7 : Blk (w6.setCell ⟨g, 13, none⟩ (.int .i64 (c7 + 1))).drew g 59 (raL ver false false t1 nc xmt c0 c1 c2 c3 c4 c5 c6 (c7 + 1)) := (H6.set 13 (.int .i64 (c7 + 1))).drew
      have L7 : Blk (w6.setCell ⟨g, 13, none⟩ (.int .i64 (c7 + 1))).drew w2.heap.size 40 (hdL 7 co qa qb qd qe) := (L6.but (but_setCell w6 g 13 _) (by omega)).drew
      have J7 : Blk (w6.setCell ⟨g, 13, none⟩ (.int .i64 (c7 + 1))).drew w1.heap.size 40 zH := (J6.but (but_setCell w6 g 13 _) (by omega)).drew
      clear H6 L6 J6 G6
      go_region
      all_goals
        generalize (w6.setCell ⟨g, 13, none⟩ (.int .i64 (c7 + 1))).drew = w7 at H7 L7 J7 B7 ⊢
        clear q1 q2 q3
        go_wp2_with (first
          | (refine wpl_load (by rfl) 40 _ (by rfl) w2.heap.size (by rfl) 40 _ L7 _ Try.underlying40 rfl _ sizeHeard (by rfl) ?_)
          | (refine wpl_store (by rfl) 40 _ _ (by rfl) w1.heap.size (by rfl) _ (by rfl) _ rfl 40 _ J7 (by rfl) _ sizeHeard (by rfl) (by simp [Value.oneCell']) ?_; intro w8 J8 s8 g8))
        obtain ⟨k0, k1, k2, k3, k4, k5⟩ := cells6 J8
        refine bodyPost_ret (v := .agg (hdL 7 co qa qb qd qe).toArray) (by simp [results, Try.results15, go_sem, k0, k1, k2, k3, k4, k5]) rfl ?_
        exact ⟨rfl, H7.but g8 (by omega), B7.new g8 (by omega)⟩
    · skip
      go_enter Try.func15, Try.ntmps15
      go_wp2_with (first
        | (refine wpl_alloc (by rfl) 40 (by rfl) (.agg (zH).toArray) (zH) zeroHeard rfl ?_; intro w3 L3 s3 b3; (have H3 := H2.below b3 (by omega)); (have J3 := J2.below b3 (by omega)); (have P3 := P2.below b3 (by omega)))
        | ((refine wpl_box (by rfl) 31 _ (by rfl) _ ([.int .i64 l, .int .i64 v, .int .i64 m, .int .i64 st, .int .i64 po, .int .i64 pr, .int .u32 rd, .int .u32 rp, .int .u32 id, .int .u64 ref, .int .u64 org, .int .u64 rec, .int .u64 xmt]) (by rfl) rfl ?_; intro w1 P1 s1 b1); (have H1 := H.below b1 hlt))
        | ((refine wpl_alloc (by rfl) 40 (by rfl) (.agg (zH).toArray) (zH) zeroHeard rfl ?_; intro w2 J2 s2 b2); (have H2 := H1.below b2 (by omega)); (have P2 := P1.below b2 (by omega)))
        | ((refine wpl_store (by rfl) 40 _ _ (by rfl) w2.heap.size (by rfl) _ (by rfl) _ rfl 40 _ L3 (by rfl) _ sizeHeard (by rfl) (by simp [Value.oneCell']) ?_; intro w4 L4 s4 g4); (have H4 := H3.but g4 (by omega)); (have J4 := J3.but g4 (by omega)); (have P4 := P3.but g4 (by omega)))
        | (refine wpl_load (by rfl) 31 _ (by rfl) w.heap.size (by rfl) 31 _ P4 _ Try.underlying31 rfl _ sizeNtp (by rfl) ?_)
        | (go_at_call 29; ((with_reducible refine (hC _).mono ?_); rintro e w5 ⟨rfl, b5⟩; (have H5 := H4.below b5 (by omega)); (have P5 := P4.below b5 (by omega)); (have J5 := J4.below b5 (by omega)); (have L5 := L4.below b5 (by omega)); (have z5 := b5.size)))
        | (go_at_call 26; ((with_reducible refine (hr _).mono ?_); rintro e w1 ⟨rfl, rfl⟩))
        | (refine wpl_loadf (by rfl) 3 _ (by rfl) w.heap.size 2 (by rfl) _ _ P5 _ rfl _ Try.underlying3 rfl ?_) | (refine wpl_loadf (by rfl) 4 _ (by rfl) g 1 (by rfl) _ _ H5 _ rfl _ Try.underlying4 rfl ?_) | (refine wpl_loadf (by rfl) 3 _ (by rfl) g 3 (by rfl) _ _ H5 _ rfl _ Try.underlying3 rfl ?_) | (refine wpl_loadf (by rfl) 4 _ (by rfl) g 2 (by rfl) _ _ H5 _ rfl _ Try.underlying4 rfl ?_)
        )
      have G5 : But g w w5 := ((((But.of_below b1 (Nat.le_refl _)).then b2 (by omega)).then b3 (by omega)).new g4 (by omega)).then b5 (by omega)
      clear P1 J2 H1 H2 P2 H3 J3 L3 P3 H4 J4 P4 L4 b1 b2 b3 g4 b5
      have q1 := P5.cell (i := 10) rfl
      have q2 := H5.cell (i := 4) rfl
      go_region_held3 (fun w' => w'.cell? ⟨w.heap.size, 10, none⟩ = some (.int .u64 org) ∧ w'.cell? ⟨g, 4, none⟩ = some (.int .u64 nc)) (exact ⟨q1, q2⟩) (fail)
      clear q1 q2
      have H5' := H5.drew
      have P5' := P5.drew
      have J5' := J5.drew
      have L5' := L5.drew
      have G5' : But g w w5.drew := ⟨G5.os, G5.tape, G5.output, G5.size, G5.block⟩
      have z5' : w4.heap.size ≤ w5.drew.heap.size := z5
      clear H5 P5 J5 L5 G5 z5
      generalize w5.drew = w5' at H5' P5' J5' L5' G5' z5' ⊢
      rename_i w5old
      have H5 := H5'
      have P5 := P5'
      have J5 := J5'
      have L5 := L5'
      have G5 := G5'
      have z5 := z5'
      clear H5' P5' J5' L5' G5' z5'
      go_wp2_with fail
      have q1 := P5.cell (i := 12) rfl
      have q2 := H5.cell (i := 5) rfl
      go_quiet (fail)
      have H5' := H5.drewN nq
      have P5' := P5.drewN nq
      have J5' := J5.drewN nq
      have L5' := L5.drewN nq
      have G5' : But g w (w5'.drewN nq) := G5.then (below_drewN (Below.refl w.heap.size w5') nq) (Nat.le_refl _)
      have z5' : w4.heap.size ≤ (w5'.drewN nq).heap.size := z5
      clear H5 P5 J5 L5 G5 z5
      generalize w5'.drewN nq = w5'' at H5' P5' J5' L5' G5' z5' ⊢
      have H5 := H5'
      have P5 := P5'
      have J5 := J5'
      have L5 := L5'
      have G5 := G5'
      have z5 := z5'
      clear H5' P5' J5' L5' G5' z5'
      clear q1 q2
      have hHE := fun W HW => hAC W HW
      go_wp2_with (first
        | (refine wpl_load (by rfl) 31 _ (by rfl) w.heap.size (by rfl) 31 _ P5 _ Try.underlying31 rfl _ sizeNtp (by rfl) ?_)
        | (go_at_call 30; ((with_reducible refine (hAC _ H5).mono ?_); rintro e x5 ⟨rfl, y5⟩; (have H8 := H5.below y5 (by omega)); (have P8 := P5.below y5 (by omega)); (have J8 := J5.below y5 (by omega)); (have L8 := L5.below y5 (by omega)); (have z8 := y5.size)))
        | ((refine wpl_store (by rfl) 40 _ _ (by rfl) w2.heap.size (by rfl) _ (by rfl) _ rfl 40 _ L8 (by rfl) _ sizeHeard (by rfl) (by simp [Value.oneCell']) ?_; intro x9 L9 s9 g9); (have H9 := H8.but g9 (by omega)); (have J9 := J8.but g9 (by omega)); (have P9 := P8.but g9 (by omega)))
        | ((refine wpl_storeg (by rfl) 4 _ _ (by rfl) g 2 (by rfl) (.bool false) (by rfl) (by rfl) (by simp [Value.oneCell']) _ _ (raL ver true false t1 nc lx c0 c1 c2 c3 c4 c5 c6 c7) H9 (by simp) sizeBool (by rfl) ?_; intro x10 H10 s10 g10); (have J10 := J9.but g10 (by omega)); (have P10 := P9.but g10 (by omega)); (have L10 := L9.but g10 (by omega)))
        | (refine wpl_loadf (by rfl) 28 _ (by rfl) w.heap.size 12 (by rfl) _ _ P10 _ rfl _ Try.underlying28 rfl ?_)
        | ((refine wpl_storeg (by rfl) 28 _ _ (by rfl) g 5 (by rfl) (.int .u64 xmt) (by rfl) (by rfl) (by simp [Value.oneCell']) _ _ (raL ver true false t1 nc xmt c0 c1 c2 c3 c4 c5 c6 c7) H10 (by simp) sizeU64 (by rfl) ?_; intro w6 H6 s6 g6); (have J6 := J10.but g6 (by omega)); (have L6 := L10.but g6 (by omega))))
      have G6 : But g w w6 := (((G5.then y5 (by omega)).new g9 (by omega)).trans g10).trans g6
      clear H5 L5 J5 P5 G5 g6 H8 P8 J8 L8 H9 J9 P9 L9 H10 J10 P10 L10 g9 g10 y5 hAC hHE
      have q1 := L6.cell (i := 0) rfl
      have q2 := H6.cell (i := 13) rfl
      have q3 := H6.frozen
      have B7 : But g w (w6.setCell ⟨g, 13, none⟩ (.int .i64 (c7 + 1))).drew := But.trans G6 ⟨rfl, rfl, rfl, by simp [World.setCell, World.drew], fun k _ hk => Below.heap_setCell _ _ _ _ (fun e => hk (by rw [e]))⟩
      have H7 : Blk (w6.setCell ⟨g, 13, none⟩ (.int .i64 (c7 + 1))).drew g 59 (raL ver true false t1 nc xmt c0 c1 c2 c3 c4 c5 c6 (c7 + 1)) := (H6.set 13 (.int .i64 (c7 + 1))).drew
      have L7 : Blk (w6.setCell ⟨g, 13, none⟩ (.int .i64 (c7 + 1))).drew w2.heap.size 40 (hdL 7 co qa qb qd qe) := (L6.but (but_setCell w6 g 13 _) (by omega)).drew
      have J7 : Blk (w6.setCell ⟨g, 13, none⟩ (.int .i64 (c7 + 1))).drew w1.heap.size 40 zH := (J6.but (but_setCell w6 g 13 _) (by omega)).drew
      clear H6 L6 J6 G6
      go_region
      all_goals
        generalize (w6.setCell ⟨g, 13, none⟩ (.int .i64 (c7 + 1))).drew = w7 at H7 L7 J7 B7 ⊢
        clear q1 q2 q3
        go_wp2_with (first
          | (refine wpl_load (by rfl) 40 _ (by rfl) w2.heap.size (by rfl) 40 _ L7 _ Try.underlying40 rfl _ sizeHeard (by rfl) ?_)
          | (refine wpl_store (by rfl) 40 _ _ (by rfl) w1.heap.size (by rfl) _ (by rfl) _ rfl 40 _ J7 (by rfl) _ sizeHeard (by rfl) (by simp [Value.oneCell']) ?_; intro w8 J8 s8 g8))
        obtain ⟨k0, k1, k2, k3, k4, k5⟩ := cells6 J8
        refine bodyPost_ret (v := .agg (hdL 7 co qa qb qd qe).toArray) (by simp [results, Try.results15, go_sem, k0, k1, k2, k3, k4, k5]) rfl ?_
        exact ⟨rfl, H7.but g8 (by omega), B7.new g8 (by omega)⟩
  · have hx' : (xmt != 0) = true := by simpa using hx0
    have hl' : (xmt == lx) = false := by simp; omega
    clear hx hx0
    rcases h4 with rfl | ⟨rfl, h6⟩
    · skip
      go_enter Try.func15, Try.ntmps15
      go_wp2_with (first
        | (refine wpl_alloc (by rfl) 40 (by rfl) (.agg (zH).toArray) (zH) zeroHeard rfl ?_; intro w3 L3 s3 b3; (have H3 := H2.below b3 (by omega)); (have J3 := J2.below b3 (by omega)); (have P3 := P2.below b3 (by omega)))
        | ((refine wpl_box (by rfl) 31 _ (by rfl) _ ([.int .i64 l, .int .i64 v, .int .i64 m, .int .i64 st, .int .i64 po, .int .i64 pr, .int .u32 rd, .int .u32 rp, .int .u32 id, .int .u64 ref, .int .u64 org, .int .u64 rec, .int .u64 xmt]) (by rfl) rfl ?_; intro w1 P1 s1 b1); (have H1 := H.below b1 hlt))
        | ((refine wpl_alloc (by rfl) 40 (by rfl) (.agg (zH).toArray) (zH) zeroHeard rfl ?_; intro w2 J2 s2 b2); (have H2 := H1.below b2 (by omega)); (have P2 := P1.below b2 (by omega)))
        | ((refine wpl_store (by rfl) 40 _ _ (by rfl) w2.heap.size (by rfl) _ (by rfl) _ rfl 40 _ L3 (by rfl) _ sizeHeard (by rfl) (by simp [Value.oneCell']) ?_; intro w4 L4 s4 g4); (have H4 := H3.but g4 (by omega)); (have J4 := J3.but g4 (by omega)); (have P4 := P3.but g4 (by omega)))
        | (refine wpl_load (by rfl) 31 _ (by rfl) w.heap.size (by rfl) 31 _ P4 _ Try.underlying31 rfl _ sizeNtp (by rfl) ?_)
        | (go_at_call 29; ((with_reducible refine (hC _).mono ?_); rintro e w5 ⟨rfl, b5⟩; (have H5 := H4.below b5 (by omega)); (have P5 := P4.below b5 (by omega)); (have J5 := J4.below b5 (by omega)); (have L5 := L4.below b5 (by omega)); (have z5 := b5.size)))
        | (go_at_call 26; ((with_reducible refine (hr _).mono ?_); rintro e w1 ⟨rfl, rfl⟩))
        | (refine wpl_loadf (by rfl) 3 _ (by rfl) w.heap.size 2 (by rfl) _ _ P5 _ rfl _ Try.underlying3 rfl ?_) | (refine wpl_loadf (by rfl) 4 _ (by rfl) g 1 (by rfl) _ _ H5 _ rfl _ Try.underlying4 rfl ?_) | (refine wpl_loadf (by rfl) 3 _ (by rfl) g 3 (by rfl) _ _ H5 _ rfl _ Try.underlying3 rfl ?_) | (refine wpl_loadf (by rfl) 4 _ (by rfl) g 2 (by rfl) _ _ H5 _ rfl _ Try.underlying4 rfl ?_)
        )
      have G5 : But g w w5 := ((((But.of_below b1 (Nat.le_refl _)).then b2 (by omega)).then b3 (by omega)).new g4 (by omega)).then b5 (by omega)
      clear P1 J2 H1 H2 P2 H3 J3 L3 P3 H4 J4 P4 L4 b1 b2 b3 g4 b5
      have q1 := P5.cell (i := 10) rfl
      have q2 := H5.cell (i := 4) rfl
      go_region_held3 (fun w' => w'.cell? ⟨w.heap.size, 10, none⟩ = some (.int .u64 org) ∧ w'.cell? ⟨g, 4, none⟩ = some (.int .u64 nc)) (exact ⟨q1, q2⟩) (fail)
      clear q1 q2
      have H5' := H5.drew
      have P5' := P5.drew
      have J5' := J5.drew
      have L5' := L5.drew
      have G5' : But g w w5.drew := ⟨G5.os, G5.tape, G5.output, G5.size, G5.block⟩
      have z5' : w4.heap.size ≤ w5.drew.heap.size := z5
      clear H5 P5 J5 L5 G5 z5
      generalize w5.drew = w5' at H5' P5' J5' L5' G5' z5' ⊢
      rename_i w5old
      have H5 := H5'
      have P5 := P5'
      have J5 := J5'
      have L5 := L5'
      have G5 := G5'
      have z5 := z5'
      clear H5' P5' J5' L5' G5' z5'
      go_wp2_with fail
      have q1 := P5.cell (i := 12) rfl
      have q2 := H5.cell (i := 5) rfl
      go_region_held3 (fun w' => w'.cell? ⟨w.heap.size, 12, none⟩ = some (.int .u64 xmt) ∧ w'.cell? ⟨g, 5, none⟩ = some (.int .u64 lx)) (exact ⟨q1, q2⟩) (fail)
      have H5' := H5.drew
      have P5' := P5.drew
      have J5' := J5.drew
      have L5' := L5.drew
      have G5' : But g w w5'.drew := ⟨G5.os, G5.tape, G5.output, G5.size, G5.block⟩
      have z5' : w4.heap.size ≤ w5'.drew.heap.size := z5
      clear H5 P5 J5 L5 G5 z5
      generalize w5'.drew = w5'' at H5' P5' J5' L5' G5' z5' ⊢
      have H5 := H5'
      have P5 := P5'
      have J5 := J5'
      have L5 := L5'
      have G5 := G5'
      have z5 := z5'
      clear H5' P5' J5' L5' G5' z5'
      clear q1 q2
      have hHE := fun W HW => hAC W HW
      go_wp2_with (first
        | (refine wpl_load (by rfl) 31 _ (by rfl) w.heap.size (by rfl) 31 _ P5 _ Try.underlying31 rfl _ sizeNtp (by rfl) ?_)
        | (go_at_call 30; ((with_reducible refine (hAC _ H5).mono ?_); rintro e x5 ⟨rfl, y5⟩; (have H8 := H5.below y5 (by omega)); (have P8 := P5.below y5 (by omega)); (have J8 := J5.below y5 (by omega)); (have L8 := L5.below y5 (by omega)); (have z8 := y5.size)))
        | ((refine wpl_store (by rfl) 40 _ _ (by rfl) w2.heap.size (by rfl) _ (by rfl) _ rfl 40 _ L8 (by rfl) _ sizeHeard (by rfl) (by simp [Value.oneCell']) ?_; intro x9 L9 s9 g9); (have H9 := H8.but g9 (by omega)); (have J9 := J8.but g9 (by omega)); (have P9 := P8.but g9 (by omega)))
        | ((refine wpl_storeg (by rfl) 4 _ _ (by rfl) g 2 (by rfl) (.bool false) (by rfl) (by rfl) (by simp [Value.oneCell']) _ _ (raL ver false false t1 nc lx c0 c1 c2 c3 c4 c5 c6 c7) H9 (by simp) sizeBool (by rfl) ?_; intro x10 H10 s10 g10); (have J10 := J9.but g10 (by omega)); (have P10 := P9.but g10 (by omega)); (have L10 := L9.but g10 (by omega)))
        | (refine wpl_loadf (by rfl) 28 _ (by rfl) w.heap.size 12 (by rfl) _ _ P10 _ rfl _ Try.underlying28 rfl ?_)
        | ((refine wpl_storeg (by rfl) 28 _ _ (by rfl) g 5 (by rfl) (.int .u64 xmt) (by rfl) (by rfl) (by simp [Value.oneCell']) _ _ (raL ver false false t1 nc xmt c0 c1 c2 c3 c4 c5 c6 c7) H10 (by simp) sizeU64 (by rfl) ?_; intro w6 H6 s6 g6); (have J6 := J10.but g6 (by omega)); (have L6 := L10.but g6 (by omega))))
      have G6 : But g w w6 := (((G5.then y5 (by omega)).new g9 (by omega)).trans g10).trans g6
      clear H5 L5 J5 P5 G5 g6 H8 P8 J8 L8 H9 J9 P9 L9 H10 J10 P10 L10 g9 g10 y5 hAC hHE
      have q1 := L6.cell (i := 0) rfl
      have q2 := H6.cell (i := 13) rfl
      have q3 := H6.frozen
      have B7 : But g w (w6.setCell ⟨g, 13, none⟩ (.int .i64 (c7 + 1))).drew := But.trans G6 ⟨rfl, rfl, rfl, by simp [World.setCell, World.drew], fun k _ hk => Below.heap_setCell _ _ _ _ (fun e => hk (by rw [e]))⟩
      have H7 : Blk (w6.setCell ⟨g, 13, none⟩ (.int .i64 (c7 + 1))).drew g 59 (raL ver false false t1 nc xmt c0 c1 c2 c3 c4 c5 c6 (c7 + 1)) := (H6.set 13 (.int .i64 (c7 + 1))).drew
      have L7 : Blk (w6.setCell ⟨g, 13, none⟩ (.int .i64 (c7 + 1))).drew w2.heap.size 40 (hdL 7 co qa qb qd qe) := (L6.but (but_setCell w6 g 13 _) (by omega)).drew
      have J7 : Blk (w6.setCell ⟨g, 13, none⟩ (.int .i64 (c7 + 1))).drew w1.heap.size 40 zH := (J6.but (but_setCell w6 g 13 _) (by omega)).drew
      clear H6 L6 J6 G6
      go_region
      all_goals
        generalize (w6.setCell ⟨g, 13, none⟩ (.int .i64 (c7 + 1))).drew = w7 at H7 L7 J7 B7 ⊢
        clear q1 q2 q3
        go_wp2_with (first
          | (refine wpl_load (by rfl) 40 _ (by rfl) w2.heap.size (by rfl) 40 _ L7 _ Try.underlying40 rfl _ sizeHeard (by rfl) ?_)
          | (refine wpl_store (by rfl) 40 _ _ (by rfl) w1.heap.size (by rfl) _ (by rfl) _ rfl 40 _ J7 (by rfl) _ sizeHeard (by rfl) (by simp [Value.oneCell']) ?_; intro w8 J8 s8 g8))
        obtain ⟨k0, k1, k2, k3, k4, k5⟩ := cells6 J8
        refine bodyPost_ret (v := .agg (hdL 7 co qa qb qd qe).toArray) (by simp [results, Try.results15, go_sem, k0, k1, k2, k3, k4, k5]) rfl ?_
        exact ⟨rfl, H7.but g8 (by omega), B7.new g8 (by omega)⟩
    · skip
      go_enter Try.func15, Try.ntmps15
      go_wp2_with (first
        | (refine wpl_alloc (by rfl) 40 (by rfl) (.agg (zH).toArray) (zH) zeroHeard rfl ?_; intro w3 L3 s3 b3; (have H3 := H2.below b3 (by omega)); (have J3 := J2.below b3 (by omega)); (have P3 := P2.below b3 (by omega)))
        | ((refine wpl_box (by rfl) 31 _ (by rfl) _ ([.int .i64 l, .int .i64 v, .int .i64 m, .int .i64 st, .int .i64 po, .int .i64 pr, .int .u32 rd, .int .u32 rp, .int .u32 id, .int .u64 ref, .int .u64 org, .int .u64 rec, .int .u64 xmt]) (by rfl) rfl ?_; intro w1 P1 s1 b1); (have H1 := H.below b1 hlt))
        | ((refine wpl_alloc (by rfl) 40 (by rfl) (.agg (zH).toArray) (zH) zeroHeard rfl ?_; intro w2 J2 s2 b2); (have H2 := H1.below b2 (by omega)); (have P2 := P1.below b2 (by omega)))
        | ((refine wpl_store (by rfl) 40 _ _ (by rfl) w2.heap.size (by rfl) _ (by rfl) _ rfl 40 _ L3 (by rfl) _ sizeHeard (by rfl) (by simp [Value.oneCell']) ?_; intro w4 L4 s4 g4); (have H4 := H3.but g4 (by omega)); (have J4 := J3.but g4 (by omega)); (have P4 := P3.but g4 (by omega)))
        | (refine wpl_load (by rfl) 31 _ (by rfl) w.heap.size (by rfl) 31 _ P4 _ Try.underlying31 rfl _ sizeNtp (by rfl) ?_)
        | (go_at_call 29; ((with_reducible refine (hC _).mono ?_); rintro e w5 ⟨rfl, b5⟩; (have H5 := H4.below b5 (by omega)); (have P5 := P4.below b5 (by omega)); (have J5 := J4.below b5 (by omega)); (have L5 := L4.below b5 (by omega)); (have z5 := b5.size)))
        | (go_at_call 26; ((with_reducible refine (hr _).mono ?_); rintro e w1 ⟨rfl, rfl⟩))
        | (refine wpl_loadf (by rfl) 3 _ (by rfl) w.heap.size 2 (by rfl) _ _ P5 _ rfl _ Try.underlying3 rfl ?_) | (refine wpl_loadf (by rfl) 4 _ (by rfl) g 1 (by rfl) _ _ H5 _ rfl _ Try.underlying4 rfl ?_) | (refine wpl_loadf (by rfl) 3 _ (by rfl) g 3 (by rfl) _ _ H5 _ rfl _ Try.underlying3 rfl ?_) | (refine wpl_loadf (by rfl) 4 _ (by rfl) g 2 (by rfl) _ _ H5 _ rfl _ Try.underlying4 rfl ?_)
        )
      have G5 : But g w w5 := ((((But.of_below b1 (Nat.le_refl _)).then b2 (by omega)).then b3 (by omega)).new g4 (by omega)).then b5 (by omega)
      clear P1 J2 H1 H2 P2 H3 J3 L3 P3 H4 J4 P4 L4 b1 b2 b3 g4 b5
      have q1 := P5.cell (i := 10) rfl
      have q2 := H5.cell (i := 4) rfl
      go_region_held3 (fun w' => w'.cell? ⟨w.heap.size, 10, none⟩ = some (.int .u64 org) ∧ w'.cell? ⟨g, 4, none⟩ = some (.int .u64 nc)) (exact ⟨q1, q2⟩) (fail)
      clear q1 q2
      have H5' := H5.drew
      have P5' := P5.drew
      have J5' := J5.drew
      have L5' := L5.drew
      have G5' : But g w w5.drew := ⟨G5.os, G5.tape, G5.output, G5.size, G5.block⟩
      have z5' : w4.heap.size ≤ w5.drew.heap.size := z5
      clear H5 P5 J5 L5 G5 z5
      generalize w5.drew = w5' at H5' P5' J5' L5' G5' z5' ⊢
      rename_i w5old
      have H5 := H5'
      have P5 := P5'
      have J5 := J5'
      have L5 := L5'
      have G5 := G5'
      have z5 := z5'
      clear H5' P5' J5' L5' G5' z5'
      go_wp2_with fail
      have q1 := P5.cell (i := 12) rfl
      have q2 := H5.cell (i := 5) rfl
      go_region_held3 (fun w' => w'.cell? ⟨w.heap.size, 12, none⟩ = some (.int .u64 xmt) ∧ w'.cell? ⟨g, 5, none⟩ = some (.int .u64 lx)) (exact ⟨q1, q2⟩) (fail)
      have H5' := H5.drew
      have P5' := P5.drew
      have J5' := J5.drew
      have L5' := L5.drew
      have G5' : But g w w5'.drew := ⟨G5.os, G5.tape, G5.output, G5.size, G5.block⟩
      have z5' : w4.heap.size ≤ w5'.drew.heap.size := z5
      clear H5 P5 J5 L5 G5 z5
      generalize w5'.drew = w5'' at H5' P5' J5' L5' G5' z5' ⊢
      have H5 := H5'
      have P5 := P5'
      have J5 := J5'
      have L5 := L5'
      have G5 := G5'
      have z5 := z5'
      clear H5' P5' J5' L5' G5' z5'
      clear q1 q2
      have hHE := fun W HW => hAC W HW
      go_wp2_with (first
        | (refine wpl_load (by rfl) 31 _ (by rfl) w.heap.size (by rfl) 31 _ P5 _ Try.underlying31 rfl _ sizeNtp (by rfl) ?_)
        | (go_at_call 30; ((with_reducible refine (hAC _ H5).mono ?_); rintro e x5 ⟨rfl, y5⟩; (have H8 := H5.below y5 (by omega)); (have P8 := P5.below y5 (by omega)); (have J8 := J5.below y5 (by omega)); (have L8 := L5.below y5 (by omega)); (have z8 := y5.size)))
        | ((refine wpl_store (by rfl) 40 _ _ (by rfl) w2.heap.size (by rfl) _ (by rfl) _ rfl 40 _ L8 (by rfl) _ sizeHeard (by rfl) (by simp [Value.oneCell']) ?_; intro x9 L9 s9 g9); (have H9 := H8.but g9 (by omega)); (have J9 := J8.but g9 (by omega)); (have P9 := P8.but g9 (by omega)))
        | ((refine wpl_storeg (by rfl) 4 _ _ (by rfl) g 2 (by rfl) (.bool false) (by rfl) (by rfl) (by simp [Value.oneCell']) _ _ (raL ver true false t1 nc lx c0 c1 c2 c3 c4 c5 c6 c7) H9 (by simp) sizeBool (by rfl) ?_; intro x10 H10 s10 g10); (have J10 := J9.but g10 (by omega)); (have P10 := P9.but g10 (by omega)); (have L10 := L9.but g10 (by omega)))
        | (refine wpl_loadf (by rfl) 28 _ (by rfl) w.heap.size 12 (by rfl) _ _ P10 _ rfl _ Try.underlying28 rfl ?_)
        | ((refine wpl_storeg (by rfl) 28 _ _ (by rfl) g 5 (by rfl) (.int .u64 xmt) (by rfl) (by rfl) (by simp [Value.oneCell']) _ _ (raL ver true false t1 nc xmt c0 c1 c2 c3 c4 c5 c6 c7) H10 (by simp) sizeU64 (by rfl) ?_; intro w6 H6 s6 g6); (have J6 := J10.but g6 (by omega)); (have L6 := L10.but g6 (by omega))))
      have G6 : But g w w6 := (((G5.then y5 (by omega)).new g9 (by omega)).trans g10).trans g6
      clear H5 L5 J5 P5 G5 g6 H8 P8 J8 L8 H9 J9 P9 L9 H10 J10 P10 L10 g9 g10 y5 hAC hHE
      have q1 := L6.cell (i := 0) rfl
      have q2 := H6.cell (i := 13) rfl
      have q3 := H6.frozen
      have B7 : But g w (w6.setCell ⟨g, 13, none⟩ (.int .i64 (c7 + 1))).drew := But.trans G6 ⟨rfl, rfl, rfl, by simp [World.setCell, World.drew], fun k _ hk => Below.heap_setCell _ _ _ _ (fun e => hk (by rw [e]))⟩
      have H7 : Blk (w6.setCell ⟨g, 13, none⟩ (.int .i64 (c7 + 1))).drew g 59 (raL ver true false t1 nc xmt c0 c1 c2 c3 c4 c5 c6 (c7 + 1)) := (H6.set 13 (.int .i64 (c7 + 1))).drew
      have L7 : Blk (w6.setCell ⟨g, 13, none⟩ (.int .i64 (c7 + 1))).drew w2.heap.size 40 (hdL 7 co qa qb qd qe) := (L6.but (but_setCell w6 g 13 _) (by omega)).drew
      have J7 : Blk (w6.setCell ⟨g, 13, none⟩ (.int .i64 (c7 + 1))).drew w1.heap.size 40 zH := (J6.but (but_setCell w6 g 13 _) (by omega)).drew
      clear H6 L6 J6 G6
      go_region
      all_goals
        generalize (w6.setCell ⟨g, 13, none⟩ (.int .i64 (c7 + 1))).drew = w7 at H7 L7 J7 B7 ⊢
        clear q1 q2 q3
        go_wp2_with (first
          | (refine wpl_load (by rfl) 40 _ (by rfl) w2.heap.size (by rfl) 40 _ L7 _ Try.underlying40 rfl _ sizeHeard (by rfl) ?_)
          | (refine wpl_store (by rfl) 40 _ _ (by rfl) w1.heap.size (by rfl) _ (by rfl) _ rfl 40 _ J7 (by rfl) _ sizeHeard (by rfl) (by simp [Value.oneCell']) ?_; intro w8 J8 s8 g8))
        obtain ⟨k0, k1, k2, k3, k4, k5⟩ := cells6 J8
        refine bodyPost_ret (v := .agg (hdL 7 co qa qb qd qe).toArray) (by simp [results, Try.results15, go_sem, k0, k1, k2, k3, k4, k5]) rfl ?_
        exact ⟨rfl, H7.but g8 (by omega), B7.new g8 (by omega)⟩
set_option maxRecDepth 100000 in
theorem rreceive_any (g : Nat) (ver t1 nc : Int) (sn pd : Bool) (lx c0 c1 c2 c3 c4 c5 c6 c7 now l v m st po pr rd rp id ref org rec xmt R A : Int) (w : World) (H : Blk w g 59 (raL ver sn pd t1 nc lx c0 c1 c2 c3 c4 c5 c6 c7)) (hI : nc = 0 → t1 = 0) (hsn : sn = !decide (nc = 0)) (hid : 0 ≤ id ∧ id ≤ 4294967295) (hc0 : CB c0) (hc1 : CB c1) (hc2 : CB c2) (hc3 : CB c3) (hc4 : CB c4) (hc5 : CB c5) (hc6 : CB c6) (hc7 : CB c7)
    (hR : rfK (nchk l v m st po pr) m now nc t1 pd org xmt lx = R) (hA : acK st l id rec xmt now = A) :
    Calls Try.prog 15 #[.pointer (some ⟨g, 0, none⟩), ntp l v m st po pr rd rp id ref org rec xmt, .int .i64 now] w fun e w' => e = .returned (.agg (rcL R A (ksS st id) t1 (insV rec now) (insV xmt now) now).toArray) ∧ Blk w' g 59 (raL ver sn (kPd R pd) t1 nc (kLx R xmt lx) (incK (kK R A) 0 c0) (incK (kK R A) 1 c1) (incK (kK R A) 2 c2) (incK (kK R A) 3 c3) (incK (kK R A) 4 c4) (incK (kK R A) 5 c5) (incK (kK R A) 6 c6) (incK (kK R A) 7 c7)) ∧ But g w w' := by
  rcases rf_cases (nchk l v m st po pr) m now nc t1 pd org xmt lx with ⟨h1, h⟩ | ⟨h1, h2, h⟩ | ⟨h1, h2, h3, h⟩ | ⟨h1, h2, h3, h4, h5, h⟩ | ⟨h1, h2, h3, h4, h⟩
  · obtain rfl : R = 0 := by omega
    exact rrec_bad g ver t1 nc sn pd lx c0 c1 c2 c3 c4 c5 c6 c7 now l v m st po pr rd rp id ref org rec xmt w H hc0 hI hsn h1
  · subst h2
    obtain rfl : R = 1 := by omega
    exact rrec_none g ver t1 nc sn lx c0 c1 c2 c3 c4 c5 c6 c7 now l v m st po pr rd rp id ref org rec xmt w H hc1 hI hsn h1
  · subst h2
    obtain rfl : R = 2 := by omega
    exact rrec_bogus g ver t1 nc sn lx c0 c1 c2 c3 c4 c5 c6 c7 now l v m st po pr rd rp id ref org rec xmt w H hc2 hI hsn h1 h3
  · subst h2
    obtain rfl : R = 3 := by omega
    exact rrec_dup g ver t1 nc sn lx c0 c1 c2 c3 c4 c5 c6 c7 now l v m st po pr rd rp id ref org rec xmt w H hc3 hI hsn h1 h3 h4 h5
  · subst h2
    obtain rfl : R = 9 := by omega
    obtain ⟨_, _, hn, _⟩ := good_parts hI h1
    have hAC := fun W HW => heard_any g ver t1 nc sn true lx c0 c1 c2 c3 c4 c5 c6 c7 now l v m st po pr rd rp id ref org rec xmt W HW hid hn
    rcases ac_k st l id rec xmt now with hk | hk | hk | hk
    · obtain rfl : A = 4 := by omega
      simp only [acH, hk] at hAC
      exact rrec_acc4 g ver t1 nc sn lx c0 c1 c2 c3 c4 c5 c6 c7 now l v m st po pr rd rp id ref org rec xmt _ _ _ _ _ w H hc4 hI hsn h1 h3 h4 hAC
    · obtain rfl : A = 5 := by omega
      simp only [acH, hk] at hAC
      exact rrec_acc5 g ver t1 nc sn lx c0 c1 c2 c3 c4 c5 c6 c7 now l v m st po pr rd rp id ref org rec xmt _ _ _ _ _ w H hc5 hI hsn h1 h3 h4 hAC
    · obtain rfl : A = 6 := by omega
      simp only [acH, hk] at hAC
      exact rrec_acc6 g ver t1 nc sn lx c0 c1 c2 c3 c4 c5 c6 c7 now l v m st po pr rd rp id ref org rec xmt _ _ _ _ _ w H hc6 hI hsn h1 h3 h4 hAC
    · obtain rfl : A = 7 := by omega
      simp only [acH, hk] at hAC
      exact rrec_acc7 g ver t1 nc sn lx c0 c1 c2 c3 c4 c5 c6 c7 now l v m st po pr rd rp id ref org rec xmt _ _ _ _ _ w H hc7 hI hsn h1 h3 h4 hAC
end Go.Proofs.Ytickoncgnjgciaa
