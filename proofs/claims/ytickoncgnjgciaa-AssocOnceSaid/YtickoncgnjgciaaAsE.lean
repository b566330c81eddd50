/- Associations: what Receive computes. -/
import Derived.Test.YtickoncgnjgciaaAsD
import Derived.RegionTactic
namespace Go.Proofs.Ytickoncgnjgciaa
open Go.RowKit
set_option linter.unusedSimpArgs false
set_option linter.unusedVariables false
def incK (k j c : Int) : Int := if k = j then c + 1 else c
/-- the outcome -/
def rcK (K m now nc t1 : Int) (pd : Bool) (org xmt lx st l id rec : Int) : Int := if rfK K m now nc t1 pd org xmt lx = 9 then acK st l id rec xmt now else rfK K m now nc t1 pd org xmt lx
theorem refuse_any (g : Nat) (ver t1 nc : Int) (pd : Bool) (lx c0 c1 c2 c3 c4 c5 c6 c7 now l v m st po pr rd rp id ref org rec xmt : Int) (w : World) (H : Blk w g 57 (asL ver t1 nc pd lx c0 c1 c2 c3 c4 c5 c6 c7)) (hI : nc = 0 → t1 = 0) :
    (rfK (nchk l v m st po pr) m now nc t1 pd org xmt lx = 9 ∧ pd = true ∧ badB (nchk l v m st po pr) m now nc t1 = false ∧ org = nc ∧ Calls Try.prog 27 #[.pointer (some ⟨g, 0, none⟩), ntp l v m st po pr rd rp id ref org rec xmt, .int .i64 now] w fun e w' => e = .returned (.tuple #[.agg (hdL 0 ⟨#[]⟩ 0 0 0 0).toArray, .bool false]) ∧ Below w.heap.size w w') ∨
    ∃ k, (k = 0 ∨ k = 1 ∨ k = 2 ∨ k = 3) ∧ rfK (nchk l v m st po pr) m now nc t1 pd org xmt lx = k ∧ Calls Try.prog 27 #[.pointer (some ⟨g, 0, none⟩), ntp l v m st po pr rd rp id ref org rec xmt, .int .i64 now] w fun e w' => e = .returned (.tuple #[.agg (hdL k ⟨#[]⟩ 0 0 0 0).toArray, .bool true]) ∧ Below w.heap.size w w' := by
  rcases rf_cases (nchk l v m st po pr) m now nc t1 pd org xmt lx with ⟨h1, h⟩ | ⟨h1, h2, h⟩ | ⟨h1, h2, h3, h⟩ | ⟨h1, h2, h3, h4, h5, h⟩ | ⟨h1, h2, h3, h4, h⟩
  · exact .inr ⟨0, .inl rfl, h, refuse_bad g ver t1 nc pd lx c0 c1 c2 c3 c4 c5 c6 c7 now l v m st po pr rd rp id ref org rec xmt w H hI h1⟩
  · subst h2; exact .inr ⟨1, .inr (.inl rfl), h, refuse_none g ver t1 nc lx c0 c1 c2 c3 c4 c5 c6 c7 now l v m st po pr rd rp id ref org rec xmt w H hI h1⟩
  · subst h2; exact .inr ⟨2, .inr (.inr (.inl rfl)), h, refuse_bogus g ver t1 nc lx c0 c1 c2 c3 c4 c5 c6 c7 now l v m st po pr rd rp id ref org rec xmt w H hI h1 h3⟩
  · subst h2; exact .inr ⟨3, .inr (.inr (.inr rfl)), h, refuse_dup g ver t1 nc lx c0 c1 c2 c3 c4 c5 c6 c7 now l v m st po pr rd rp id ref org rec xmt w H hI h1 h3 h4 h5⟩
  · subst h2; exact .inl ⟨h, rfl, h1, h3, refuse_pass g ver t1 nc lx c0 c1 c2 c3 c4 c5 c6 c7 now l v m st po pr rd rp id ref org rec xmt w H hI h1 h3 h4⟩
abbrev CB (c : Int) : Prop := 0 ≤ c ∧ c ≤ 1000000
set_option maxRecDepth 100000 in
set_option maxHeartbeats 4000000 in
theorem rec_ref0 (g : Nat) (ver t1 nc : Int) (pd : Bool) (lx c0 c1 c2 c3 c4 c5 c6 c7 now l v m st po pr rd rp id ref org rec xmt : Int) (w : World) (H : Blk w g 57 (asL ver t1 nc pd lx c0 c1 c2 c3 c4 c5 c6 c7)) (hc : CB c0)
    (hFR : ∀ W, Blk W g 57 (asL ver t1 nc pd lx c0 c1 c2 c3 c4 c5 c6 c7) → Calls Try.prog 27 #[.pointer (some ⟨g, 0, none⟩), ntp l v m st po pr rd rp id ref org rec xmt, .int .i64 now] W fun e w' => e = .returned (.tuple #[.agg (hdL 0 ⟨#[]⟩ 0 0 0 0).toArray, .bool true]) ∧ Below W.heap.size W w') :
    Calls Try.prog 14 #[.pointer (some ⟨g, 0, none⟩), ntp l v m st po pr rd rp id ref org rec xmt, .int .i64 now] w fun e w' => e = .returned (.agg (hdL 0 ⟨#[]⟩ 0 0 0 0).toArray) ∧ Blk w' g 57 (asL ver t1 nc pd lx (c0 + 1) c1 c2 c3 c4 c5 c6 c7) ∧ But g w w' := by
  have hlt := H.lt
  have hcw : IntKind.i64.wrap (c0 + 1) = c0 + 1 := by rw [IntKind.wrap_i64]; omega
  go_enter Try.func14, Try.ntmps14
  go_wp2_with (first
    | (refine wpl_alloc (by rfl) 40 (by rfl) (.agg (zH).toArray) (zH) zeroHeard rfl ?_; intro w4 L4 s4 b4; (have H4 := H3.below b4 (by omega)); (have J4 := J3.below b4 (by omega)))
    | ((refine wpl_box (by rfl) 31 _ (by rfl) _ ([.int .i64 l, .int .i64 v, .int .i64 m, .int .i64 st, .int .i64 po, .int .i64 pr, .int .u32 rd, .int .u32 rp, .int .u32 id, .int .u64 ref, .int .u64 org, .int .u64 rec, .int .u64 xmt]) (by rfl) rfl ?_; intro w1 P1 s1 b1); (have H1 := H.below b1 hlt))
    | ((refine wpl_alloc (by rfl) 40 (by rfl) (.agg (zH).toArray) (zH) zeroHeard rfl ?_; intro w2 J2 s2 b2); (have H2 := H1.below b2 (by omega)); (have P2 := P1.below b2 (by omega)))
    | (refine wpl_load (by rfl) 31 _ (by rfl) w.heap.size (by rfl) 31 _ P2 _ Try.underlying31 rfl _ sizeNtp (by rfl) ?_)
    | (go_at_call 27; ((with_reducible refine (hFR _ H2).mono ?_); rintro e w3 ⟨rfl, b3⟩; (have H3 := H2.below b3 (by omega)); (have J3 := J2.below b3 (by omega)); (have z3 := b3.size)))
    | ((refine wpl_store (by rfl) 40 _ _ (by rfl) w3.heap.size (by rfl) _ (by rfl) _ rfl 40 _ L4 (by rfl) _ sizeHeard (by rfl) (by simp [Value.oneCell']) ?_; intro w5 L5 s5 g5); (have H5 := H4.but g5 (by omega)); (have J5 := J4.but g5 (by omega))))
  have G5 : But g w w5 := ((((But.of_below b1 (Nat.le_refl _)).then b2 (by omega)).then b3 (by omega)).then b4 (by omega)).new g5 (by omega)
  clear P1 J2 H1 H2 P2 H3 J3 L4 H4 J4 hFR b1 b2 b3 b4 g5
  have q1 := L5.cell (i := 0) rfl
  have q2 := H5.cell (i := 5) rfl
  have q3 := H5.frozen
  have B6 : But g w (w5.setCell ⟨g, 5, none⟩ (.int .i64 (c0 + 1))).drew := But.trans G5 ⟨rfl, rfl, rfl, by simp [World.setCell, World.drew], fun k _ hk => Below.heap_setCell _ _ _ _ (fun e => hk (by rw [e]))⟩
  have H6 : Blk (w5.setCell ⟨g, 5, none⟩ (.int .i64 (c0 + 1))).drew g 57 (asL ver t1 nc pd lx (c0 + 1) c1 c2 c3 c4 c5 c6 c7) := (H5.set 5 (.int .i64 (c0 + 1))).drew
  have L6 : Blk (w5.setCell ⟨g, 5, none⟩ (.int .i64 (c0 + 1))).drew w3.heap.size 40 (hdL 0 ⟨#[]⟩ 0 0 0 0) := (L5.but (but_setCell w5 g 5 _) (by omega)).drew
  have J6 : Blk (w5.setCell ⟨g, 5, none⟩ (.int .i64 (c0 + 1))).drew w1.heap.size 40 zH := (J5.but (but_setCell w5 g 5 _) (by omega)).drew
  clear H5 L5 J5 G5
  go_region
  generalize (w5.setCell ⟨g, 5, none⟩ (.int .i64 (c0 + 1))).drew = w6 at H6 L6 J6 B6 ⊢
  clear q1 q2 q3
  go_wp2_with (first
    | (refine wpl_load (by rfl) 40 _ (by rfl) w3.heap.size (by rfl) 40 _ L6 _ Try.underlying40 rfl _ sizeHeard (by rfl) ?_)
    | (refine wpl_store (by rfl) 40 _ _ (by rfl) w1.heap.size (by rfl) _ (by rfl) _ rfl 40 _ J6 (by rfl) _ sizeHeard (by rfl) (by simp [Value.oneCell']) ?_; intro w7 J7 s7 g7))
  obtain ⟨k0, k1, k2, k3, k4, k5⟩ := cells6 J7
  refine bodyPost_ret (v := .agg (hdL 0 ⟨#[]⟩ 0 0 0 0).toArray) (by simp [results, Try.results14, go_sem, k0, k1, k2, k3, k4, k5]) rfl ?_
  exact ⟨rfl, H6.but g7 (by omega), B6.new g7 (by omega)⟩
set_option maxRecDepth 100000 in
set_option maxHeartbeats 4000000 in
theorem rec_ref1 (g : Nat) (ver t1 nc : Int) (pd : Bool) (lx c0 c1 c2 c3 c4 c5 c6 c7 now l v m st po pr rd rp id ref org rec xmt : Int) (w : World) (H : Blk w g 57 (asL ver t1 nc pd lx c0 c1 c2 c3 c4 c5 c6 c7)) (hc : CB c1)
    (hFR : ∀ W, Blk W g 57 (asL ver t1 nc pd lx c0 c1 c2 c3 c4 c5 c6 c7) → Calls Try.prog 27 #[.pointer (some ⟨g, 0, none⟩), ntp l v m st po pr rd rp id ref org rec xmt, .int .i64 now] W fun e w' => e = .returned (.tuple #[.agg (hdL 1 ⟨#[]⟩ 0 0 0 0).toArray, .bool true]) ∧ Below W.heap.size W w') :
    Calls Try.prog 14 #[.pointer (some ⟨g, 0, none⟩), ntp l v m st po pr rd rp id ref org rec xmt, .int .i64 now] w fun e w' => e = .returned (.agg (hdL 1 ⟨#[]⟩ 0 0 0 0).toArray) ∧ Blk w' g 57 (asL ver t1 nc pd lx c0 (c1 + 1) c2 c3 c4 c5 c6 c7) ∧ But g w w' := by
  have hlt := H.lt
  have hcw : IntKind.i64.wrap (c1 + 1) = c1 + 1 := by rw [IntKind.wrap_i64]; omega
  go_enter Try.func14, Try.ntmps14
  go_wp2_with (first
    | (refine wpl_alloc (by rfl) 40 (by rfl) (.agg (zH).toArray) (zH) zeroHeard rfl ?_; intro w4 L4 s4 b4; (have H4 := H3.below b4 (by omega)); (have J4 := J3.below b4 (by omega)))
    | ((refine wpl_box (by rfl) 31 _ (by rfl) _ ([.int .i64 l, .int .i64 v, .int .i64 m, .int .i64 st, .int .i64 po, .int .i64 pr, .int .u32 rd, .int .u32 rp, .int .u32 id, .int .u64 ref, .int .u64 org, .int .u64 rec, .int .u64 xmt]) (by rfl) rfl ?_; intro w1 P1 s1 b1); (have H1 := H.below b1 hlt))
    | ((refine wpl_alloc (by rfl) 40 (by rfl) (.agg (zH).toArray) (zH) zeroHeard rfl ?_; intro w2 J2 s2 b2); (have H2 := H1.below b2 (by omega)); (have P2 := P1.below b2 (by omega)))
    | (refine wpl_load (by rfl) 31 _ (by rfl) w.heap.size (by rfl) 31 _ P2 _ Try.underlying31 rfl _ sizeNtp (by rfl) ?_)
    | (go_at_call 27; ((with_reducible refine (hFR _ H2).mono ?_); rintro e w3 ⟨rfl, b3⟩; (have H3 := H2.below b3 (by omega)); (have J3 := J2.below b3 (by omega)); (have z3 := b3.size)))
    | ((refine wpl_store (by rfl) 40 _ _ (by rfl) w3.heap.size (by rfl) _ (by rfl) _ rfl 40 _ L4 (by rfl) _ sizeHeard (by rfl) (by simp [Value.oneCell']) ?_; intro w5 L5 s5 g5); (have H5 := H4.but g5 (by omega)); (have J5 := J4.but g5 (by omega))))
  have G5 : But g w w5 := ((((But.of_below b1 (Nat.le_refl _)).then b2 (by omega)).then b3 (by omega)).then b4 (by omega)).new g5 (by omega)
  clear P1 J2 H1 H2 P2 H3 J3 L4 H4 J4 hFR b1 b2 b3 b4 g5
  have q1 := L5.cell (i := 0) rfl
  have q2 := H5.cell (i := 6) rfl
  have q3 := H5.frozen
  have B6 : But g w (w5.setCell ⟨g, 6, none⟩ (.int .i64 (c1 + 1))).drew := But.trans G5 ⟨rfl, rfl, rfl, by simp [World.setCell, World.drew], fun k _ hk => Below.heap_setCell _ _ _ _ (fun e => hk (by rw [e]))⟩
  have H6 : Blk (w5.setCell ⟨g, 6, none⟩ (.int .i64 (c1 + 1))).drew g 57 (asL ver t1 nc pd lx c0 (c1 + 1) c2 c3 c4 c5 c6 c7) := (H5.set 6 (.int .i64 (c1 + 1))).drew
  have L6 : Blk (w5.setCell ⟨g, 6, none⟩ (.int .i64 (c1 + 1))).drew w3.heap.size 40 (hdL 1 ⟨#[]⟩ 0 0 0 0) := (L5.but (but_setCell w5 g 6 _) (by omega)).drew
  have J6 : Blk (w5.setCell ⟨g, 6, none⟩ (.int .i64 (c1 + 1))).drew w1.heap.size 40 zH := (J5.but (but_setCell w5 g 6 _) (by omega)).drew
  clear H5 L5 J5 G5
  go_region
  generalize (w5.setCell ⟨g, 6, none⟩ (.int .i64 (c1 + 1))).drew = w6 at H6 L6 J6 B6 ⊢
  clear q1 q2 q3
  go_wp2_with (first
    | (refine wpl_load (by rfl) 40 _ (by rfl) w3.heap.size (by rfl) 40 _ L6 _ Try.underlying40 rfl _ sizeHeard (by rfl) ?_)
    | (refine wpl_store (by rfl) 40 _ _ (by rfl) w1.heap.size (by rfl) _ (by rfl) _ rfl 40 _ J6 (by rfl) _ sizeHeard (by rfl) (by simp [Value.oneCell']) ?_; intro w7 J7 s7 g7))
  obtain ⟨k0, k1, k2, k3, k4, k5⟩ := cells6 J7
  refine bodyPost_ret (v := .agg (hdL 1 ⟨#[]⟩ 0 0 0 0).toArray) (by simp [results, Try.results14, go_sem, k0, k1, k2, k3, k4, k5]) rfl ?_
  exact ⟨rfl, H6.but g7 (by omega), B6.new g7 (by omega)⟩
set_option maxRecDepth 100000 in
set_option maxHeartbeats 4000000 in
theorem rec_ref2 (g : Nat) (ver t1 nc : Int) (pd : Bool) (lx c0 c1 c2 c3 c4 c5 c6 c7 now l v m st po pr rd rp id ref org rec xmt : Int) (w : World) (H : Blk w g 57 (asL ver t1 nc pd lx c0 c1 c2 c3 c4 c5 c6 c7)) (hc : CB c2)
    (hFR : ∀ W, Blk W g 57 (asL ver t1 nc pd lx c0 c1 c2 c3 c4 c5 c6 c7) → Calls Try.prog 27 #[.pointer (some ⟨g, 0, none⟩), ntp l v m st po pr rd rp id ref org rec xmt, .int .i64 now] W fun e w' => e = .returned (.tuple #[.agg (hdL 2 ⟨#[]⟩ 0 0 0 0).toArray, .bool true]) ∧ Below W.heap.size W w') :
    Calls Try.prog 14 #[.pointer (some ⟨g, 0, none⟩), ntp l v m st po pr rd rp id ref org rec xmt, .int .i64 now] w fun e w' => e = .returned (.agg (hdL 2 ⟨#[]⟩ 0 0 0 0).toArray) ∧ Blk w' g 57 (asL ver t1 nc pd lx c0 c1 (c2 + 1) c3 c4 c5 c6 c7) ∧ But g w w' := by
  have hlt := H.lt
  have hcw : IntKind.i64.wrap (c2 + 1) = c2 + 1 := by rw [IntKind.wrap_i64]; omega
  go_enter Try.func14, Try.ntmps14
  go_wp2_with (first
    | (refine wpl_alloc (by rfl) 40 (by rfl) (.agg (zH).toArray) (zH) zeroHeard rfl ?_; intro w4 L4 s4 b4; (have H4 := H3.below b4 (by omega)); (have J4 := J3.below b4 (by omega)))
    | ((refine wpl_box (by rfl) 31 _ (by rfl) _ ([.int .i64 l, .int .i64 v, .int .i64 m, .int .i64 st, .int .i64 po, .int .i64 pr, .int .u32 rd, .int .u32 rp, .int .u32 id, .int .u64 ref, .int .u64 org, .int .u64 rec, .int .u64 xmt]) (by rfl) rfl ?_; intro w1 P1 s1 b1); (have H1 := H.below b1 hlt))
    | ((refine wpl_alloc (by rfl) 40 (by rfl) (.agg (zH).toArray) (zH) zeroHeard rfl ?_; intro w2 J2 s2 b2); (have H2 := H1.below b2 (by omega)); (have P2 := P1.below b2 (by omega)))
    | (refine wpl_load (by rfl) 31 _ (by rfl) w.heap.size (by rfl) 31 _ P2 _ Try.underlying31 rfl _ sizeNtp (by rfl) ?_)
    | (go_at_call 27; ((with_reducible refine (hFR _ H2).mono ?_); rintro e w3 ⟨rfl, b3⟩; (have H3 := H2.below b3 (by omega)); (have J3 := J2.below b3 (by omega)); (have z3 := b3.size)))
    | ((refine wpl_store (by rfl) 40 _ _ (by rfl) w3.heap.size (by rfl) _ (by rfl) _ rfl 40 _ L4 (by rfl) _ sizeHeard (by rfl) (by simp [Value.oneCell']) ?_; intro w5 L5 s5 g5); (have H5 := H4.but g5 (by omega)); (have J5 := J4.but g5 (by omega))))
  have G5 : But g w w5 := ((((But.of_below b1 (Nat.le_refl _)).then b2 (by omega)).then b3 (by omega)).then b4 (by omega)).new g5 (by omega)
  clear P1 J2 H1 H2 P2 H3 J3 L4 H4 J4 hFR b1 b2 b3 b4 g5
  have q1 := L5.cell (i := 0) rfl
  have q2 := H5.cell (i := 7) rfl
  have q3 := H5.frozen
  have B6 : But g w (w5.setCell ⟨g, 7, none⟩ (.int .i64 (c2 + 1))).drew := But.trans G5 ⟨rfl, rfl, rfl, by simp [World.setCell, World.drew], fun k _ hk => Below.heap_setCell _ _ _ _ (fun e => hk (by rw [e]))⟩
  have H6 : Blk (w5.setCell ⟨g, 7, none⟩ (.int .i64 (c2 + 1))).drew g 57 (asL ver t1 nc pd lx c0 c1 (c2 + 1) c3 c4 c5 c6 c7) := (H5.set 7 (.int .i64 (c2 + 1))).drew
  have L6 : Blk (w5.setCell ⟨g, 7, none⟩ (.int .i64 (c2 + 1))).drew w3.heap.size 40 (hdL 2 ⟨#[]⟩ 0 0 0 0) := (L5.but (but_setCell w5 g 7 _) (by omega)).drew
  have J6 : Blk (w5.setCell ⟨g, 7, none⟩ (.int .i64 (c2 + 1))).drew w1.heap.size 40 zH := (J5.but (but_setCell w5 g 7 _) (by omega)).drew
  clear H5 L5 J5 G5
  go_region
  generalize (w5.setCell ⟨g, 7, none⟩ (.int .i64 (c2 + 1))).drew = w6 at H6 L6 J6 B6 ⊢
  clear q1 q2 q3
  go_wp2_with (first
    | (refine wpl_load (by rfl) 40 _ (by rfl) w3.heap.size (by rfl) 40 _ L6 _ Try.underlying40 rfl _ sizeHeard (by rfl) ?_)
    | (refine wpl_store (by rfl) 40 _ _ (by rfl) w1.heap.size (by rfl) _ (by rfl) _ rfl 40 _ J6 (by rfl) _ sizeHeard (by rfl) (by simp [Value.oneCell']) ?_; intro w7 J7 s7 g7))
  obtain ⟨k0, k1, k2, k3, k4, k5⟩ := cells6 J7
  refine bodyPost_ret (v := .agg (hdL 2 ⟨#[]⟩ 0 0 0 0).toArray) (by simp [results, Try.results14, go_sem, k0, k1, k2, k3, k4, k5]) rfl ?_
  exact ⟨rfl, H6.but g7 (by omega), B6.new g7 (by omega)⟩
set_option maxRecDepth 100000 in
set_option maxHeartbeats 4000000 in
theorem rec_ref3 (g : Nat) (ver t1 nc : Int) (pd : Bool) (lx c0 c1 c2 c3 c4 c5 c6 c7 now l v m st po pr rd rp id ref org rec xmt : Int) (w : World) (H : Blk w g 57 (asL ver t1 nc pd lx c0 c1 c2 c3 c4 c5 c6 c7)) (hc : CB c3)
    (hFR : ∀ W, Blk W g 57 (asL ver t1 nc pd lx c0 c1 c2 c3 c4 c5 c6 c7) → Calls Try.prog 27 #[.pointer (some ⟨g, 0, none⟩), ntp l v m st po pr rd rp id ref org rec xmt, .int .i64 now] W fun e w' => e = .returned (.tuple #[.agg (hdL 3 ⟨#[]⟩ 0 0 0 0).toArray, .bool true]) ∧ Below W.heap.size W w') :
    Calls Try.prog 14 #[.pointer (some ⟨g, 0, none⟩), ntp l v m st po pr rd rp id ref org rec xmt, .int .i64 now] w fun e w' => e = .returned (.agg (hdL 3 ⟨#[]⟩ 0 0 0 0).toArray) ∧ Blk w' g 57 (asL ver t1 nc pd lx c0 c1 c2 (c3 + 1) c4 c5 c6 c7) ∧ But g w w' := by
  have hlt := H.lt
  have hcw : IntKind.i64.wrap (c3 + 1) = c3 + 1 := by rw [IntKind.wrap_i64]; omega
  go_enter Try.func14, Try.ntmps14
  go_wp2_with (first
    | (refine wpl_alloc (by rfl) 40 (by rfl) (.agg (zH).toArray) (zH) zeroHeard rfl ?_; intro w4 L4 s4 b4; (have H4 := H3.below b4 (by omega)); (have J4 := J3.below b4 (by omega)))
    | ((refine wpl_box (by rfl) 31 _ (by rfl) _ ([.int .i64 l, .int .i64 v, .int .i64 m, .int .i64 st, .int .i64 po, .int .i64 pr, .int .u32 rd, .int .u32 rp, .int .u32 id, .int .u64 ref, .int .u64 org, .int .u64 rec, .int .u64 xmt]) (by rfl) rfl ?_; intro w1 P1 s1 b1); (have H1 := H.below b1 hlt))
    | ((refine wpl_alloc (by rfl) 40 (by rfl) (.agg (zH).toArray) (zH) zeroHeard rfl ?_; intro w2 J2 s2 b2); (have H2 := H1.below b2 (by omega)); (have P2 := P1.below b2 (by omega)))
    | (refine wpl_load (by rfl) 31 _ (by rfl) w.heap.size (by rfl) 31 _ P2 _ Try.underlying31 rfl _ sizeNtp (by rfl) ?_)
    | (go_at_call 27; ((with_reducible refine (hFR _ H2).mono ?_); rintro e w3 ⟨rfl, b3⟩; (have H3 := H2.below b3 (by omega)); (have J3 := J2.below b3 (by omega)); (have z3 := b3.size)))
    | ((refine wpl_store (by rfl) 40 _ _ (by rfl) w3.heap.size (by rfl) _ (by rfl) _ rfl 40 _ L4 (by rfl) _ sizeHeard (by rfl) (by simp [Value.oneCell']) ?_; intro w5 L5 s5 g5); (have H5 := H4.but g5 (by omega)); (have J5 := J4.but g5 (by omega))))
  have G5 : But g w w5 := ((((But.of_below b1 (Nat.le_refl _)).then b2 (by omega)).then b3 (by omega)).then b4 (by omega)).new g5 (by omega)
  clear P1 J2 H1 H2 P2 H3 J3 L4 H4 J4 hFR b1 b2 b3 b4 g5
  have q1 := L5.cell (i := 0) rfl
  have q2 := H5.cell (i := 8) rfl
  have q3 := H5.frozen
  have B6 : But g w (w5.setCell ⟨g, 8, none⟩ (.int .i64 (c3 + 1))).drew := But.trans G5 ⟨rfl, rfl, rfl, by simp [World.setCell, World.drew], fun k _ hk => Below.heap_setCell _ _ _ _ (fun e => hk (by rw [e]))⟩
  have H6 : Blk (w5.setCell ⟨g, 8, none⟩ (.int .i64 (c3 + 1))).drew g 57 (asL ver t1 nc pd lx c0 c1 c2 (c3 + 1) c4 c5 c6 c7) := (H5.set 8 (.int .i64 (c3 + 1))).drew
  have L6 : Blk (w5.setCell ⟨g, 8, none⟩ (.int .i64 (c3 + 1))).drew w3.heap.size 40 (hdL 3 ⟨#[]⟩ 0 0 0 0) := (L5.but (but_setCell w5 g 8 _) (by omega)).drew
  have J6 : Blk (w5.setCell ⟨g, 8, none⟩ (.int .i64 (c3 + 1))).drew w1.heap.size 40 zH := (J5.but (but_setCell w5 g 8 _) (by omega)).drew
  clear H5 L5 J5 G5
  go_region
  generalize (w5.setCell ⟨g, 8, none⟩ (.int .i64 (c3 + 1))).drew = w6 at H6 L6 J6 B6 ⊢
  clear q1 q2 q3
  go_wp2_with (first
    | (refine wpl_load (by rfl) 40 _ (by rfl) w3.heap.size (by rfl) 40 _ L6 _ Try.underlying40 rfl _ sizeHeard (by rfl) ?_)
    | (refine wpl_store (by rfl) 40 _ _ (by rfl) w1.heap.size (by rfl) _ (by rfl) _ rfl 40 _ J6 (by rfl) _ sizeHeard (by rfl) (by simp [Value.oneCell']) ?_; intro w7 J7 s7 g7))
  obtain ⟨k0, k1, k2, k3, k4, k5⟩ := cells6 J7
  refine bodyPost_ret (v := .agg (hdL 3 ⟨#[]⟩ 0 0 0 0).toArray) (by simp [results, Try.results14, go_sem, k0, k1, k2, k3, k4, k5]) rfl ?_
  exact ⟨rfl, H6.but g7 (by omega), B6.new g7 (by omega)⟩
set_option maxRecDepth 100000 in
set_option maxHeartbeats 4000000 in
theorem rec_acc4 (g : Nat) (ver t1 nc : Int) (lx c0 c1 c2 c3 c4 c5 c6 c7 now l v m st po pr rd rp id ref org rec xmt : Int) (co : ByteArray) (qa qb qd qe : Int) (w : World) (H : Blk w g 57 (asL ver t1 nc true lx c0 c1 c2 c3 c4 c5 c6 c7)) (hc : CB c4)
    (hFR : ∀ W, Blk W g 57 (asL ver t1 nc true lx c0 c1 c2 c3 c4 c5 c6 c7) → Calls Try.prog 27 #[.pointer (some ⟨g, 0, none⟩), ntp l v m st po pr rd rp id ref org rec xmt, .int .i64 now] W fun e w' => e = .returned (.tuple #[.agg (hdL 0 ⟨#[]⟩ 0 0 0 0).toArray, .bool false]) ∧ Below W.heap.size W w')
    (hAC : ∀ W, Blk W g 57 (asL ver t1 nc true lx c0 c1 c2 c3 c4 c5 c6 c7) → Calls Try.prog 28 #[.pointer (some ⟨g, 0, none⟩), ntp l v m st po pr rd rp id ref org rec xmt, .int .i64 now] W fun e w' => e = .returned (.agg (hdL 4 co qa qb qd qe).toArray) ∧ Blk w' g 57 (asL ver t1 nc false xmt c0 c1 c2 c3 c4 c5 c6 c7) ∧ But g W w') :
    Calls Try.prog 14 #[.pointer (some ⟨g, 0, none⟩), ntp l v m st po pr rd rp id ref org rec xmt, .int .i64 now] w fun e w' => e = .returned (.agg (hdL 4 co qa qb qd qe).toArray) ∧ Blk w' g 57 (asL ver t1 nc false xmt c0 c1 c2 c3 (c4 + 1) c5 c6 c7) ∧ But g w w' := by
  have hlt := H.lt
  have hcw : IntKind.i64.wrap (c4 + 1) = c4 + 1 := by rw [IntKind.wrap_i64]; omega
  go_enter Try.func14, Try.ntmps14
  go_wp2_with (first
    | (refine wpl_alloc (by rfl) 40 (by rfl) (.agg (zH).toArray) (zH) zeroHeard rfl ?_; intro w4 L4 s4 b4; (have H4 := H3.below b4 (by omega)); (have J4 := J3.below b4 (by omega)); (have P4 := P3.below b4 (by omega)))
    | ((refine wpl_box (by rfl) 31 _ (by rfl) _ ([.int .i64 l, .int .i64 v, .int .i64 m, .int .i64 st, .int .i64 po, .int .i64 pr, .int .u32 rd, .int .u32 rp, .int .u32 id, .int .u64 ref, .int .u64 org, .int .u64 rec, .int .u64 xmt]) (by rfl) rfl ?_; intro w1 P1 s1 b1); (have H1 := H.below b1 hlt))
    | ((refine wpl_alloc (by rfl) 40 (by rfl) (.agg (zH).toArray) (zH) zeroHeard rfl ?_; intro w2 J2 s2 b2); (have H2 := H1.below b2 (by omega)); (have P2 := P1.below b2 (by omega)))
    | (refine wpl_load (by rfl) 31 _ (by rfl) w.heap.size (by rfl) 31 _ P2 _ Try.underlying31 rfl _ sizeNtp (by rfl) ?_)
    | (go_at_call 27; ((with_reducible refine (hFR _ H2).mono ?_); rintro e w3 ⟨rfl, b3⟩; (have H3 := H2.below b3 (by omega)); (have J3 := J2.below b3 (by omega)); (have P3 := P2.below b3 (by omega)); (have z3 := b3.size)))
    | ((refine wpl_store (by rfl) 40 _ _ (by rfl) w3.heap.size (by rfl) _ (by rfl) _ rfl 40 _ L4 (by rfl) _ sizeHeard (by rfl) (by simp [Value.oneCell']) ?_; intro x5 L5 s5 g5); (have H5 := H4.but g5 (by omega)); (have J5 := J4.but g5 (by omega)); (have P5 := P4.but g5 (by omega)))
    | (refine wpl_load (by rfl) 31 _ (by rfl) w.heap.size (by rfl) 31 _ P5 _ Try.underlying31 rfl _ sizeNtp (by rfl) ?_)
    | (go_at_call 28; ((with_reducible refine (hAC _ H5).mono ?_); rintro e y5 ⟨rfl, H6, g6⟩; (have L6 := L5.but g6 (by omega)); (have J6 := J5.but g6 (by omega)); (have z6 := g6.size)))
    | ((refine wpl_store (by rfl) 40 _ _ (by rfl) w3.heap.size (by rfl) _ (by rfl) _ rfl 40 _ L6 (by rfl) _ sizeHeard (by rfl) (by simp [Value.oneCell']) ?_; intro w5 L7 s7 g7); (have H7 := H6.but g7 (by omega)); (have J7 := J6.but g7 (by omega))))
  have G5 : But g w w5 := ((((((But.of_below b1 (Nat.le_refl _)).then b2 (by omega)).then b3 (by omega)).then b4 (by omega)).new g5 (by omega)).trans g6).new g7 (by omega)
  clear P1 J2 H1 H2 P2 H3 J3 L4 H4 J4 hFR hAC b1 b2 b3 b4 g5 L5 J5 P3 P4 P5 H5 H6 L6 J6 g6 g7
  have L5 := L7
  have J5 := J7
  have H5 := H7
  clear L7 J7 H7
  have q1 := L5.cell (i := 0) rfl
  have q2 := H5.cell (i := 9) rfl
  have q3 := H5.frozen
  have B6 : But g w (w5.setCell ⟨g, 9, none⟩ (.int .i64 (c4 + 1))).drew := But.trans G5 ⟨rfl, rfl, rfl, by simp [World.setCell, World.drew], fun k _ hk => Below.heap_setCell _ _ _ _ (fun e => hk (by rw [e]))⟩
  have H6 : Blk (w5.setCell ⟨g, 9, none⟩ (.int .i64 (c4 + 1))).drew g 57 (asL ver t1 nc false xmt c0 c1 c2 c3 (c4 + 1) c5 c6 c7) := (H5.set 9 (.int .i64 (c4 + 1))).drew
  have L6 : Blk (w5.setCell ⟨g, 9, none⟩ (.int .i64 (c4 + 1))).drew w3.heap.size 40 (hdL 4 co qa qb qd qe) := (L5.but (but_setCell w5 g 9 _) (by omega)).drew
  have J6 : Blk (w5.setCell ⟨g, 9, none⟩ (.int .i64 (c4 + 1))).drew w1.heap.size 40 zH := (J5.but (but_setCell w5 g 9 _) (by omega)).drew
  clear H5 L5 J5 G5
  go_region
  generalize (w5.setCell ⟨g, 9, none⟩ (.int .i64 (c4 + 1))).drew = w6 at H6 L6 J6 B6 ⊢
  clear q1 q2 q3
  go_wp2_with (first
    | (refine wpl_load (by rfl) 40 _ (by rfl) w3.heap.size (by rfl) 40 _ L6 _ Try.underlying40 rfl _ sizeHeard (by rfl) ?_)
    | (refine wpl_store (by rfl) 40 _ _ (by rfl) w1.heap.size (by rfl) _ (by rfl) _ rfl 40 _ J6 (by rfl) _ sizeHeard (by rfl) (by simp [Value.oneCell']) ?_; intro w7 J7 s7 g7))
  obtain ⟨k0, k1, k2, k3, k4, k5⟩ := cells6 J7
  refine bodyPost_ret (v := .agg (hdL 4 co qa qb qd qe).toArray) (by simp [results, Try.results14, go_sem, k0, k1, k2, k3, k4, k5]) rfl ?_
  exact ⟨rfl, H6.but g7 (by omega), B6.new g7 (by omega)⟩
set_option maxRecDepth 100000 in
set_option maxHeartbeats 4000000 in
theorem rec_acc5 (g : Nat) (ver t1 nc : Int) (lx c0 c1 c2 c3 c4 c5 c6 c7 now l v m st po pr rd rp id ref org rec xmt : Int) (co : ByteArray) (qa qb qd qe : Int) (w : World) (H : Blk w g 57 (asL ver t1 nc true lx c0 c1 c2 c3 c4 c5 c6 c7)) (hc : CB c5)
    (hFR : ∀ W, Blk W g 57 (asL ver t1 nc true lx c0 c1 c2 c3 c4 c5 c6 c7) → Calls Try.prog 27 #[.pointer (some ⟨g, 0, none⟩), ntp l v m st po pr rd rp id ref org rec xmt, .int .i64 now] W fun e w' => e = .returned (.tuple #[.agg (hdL 0 ⟨#[]⟩ 0 0 0 0).toArray, .bool false]) ∧ Below W.heap.size W w')
    (hAC : ∀ W, Blk W g 57 (asL ver t1 nc true lx c0 c1 c2 c3 c4 c5 c6 c7) → Calls Try.prog 28 #[.pointer (some ⟨g, 0, none⟩), ntp l v m st po pr rd rp id ref org rec xmt, .int .i64 now] W fun e w' => e = .returned (.agg (hdL 5 co qa qb qd qe).toArray) ∧ Blk w' g 57 (asL ver t1 nc false xmt c0 c1 c2 c3 c4 c5 c6 c7) ∧ But g W w') :
    Calls Try.prog 14 #[.pointer (some ⟨g, 0, none⟩), ntp l v m st po pr rd rp id ref org rec xmt, .int .i64 now] w fun e w' => e = .returned (.agg (hdL 5 co qa qb qd qe).toArray) ∧ Blk w' g 57 (asL ver t1 nc false xmt c0 c1 c2 c3 c4 (c5 + 1) c6 c7) ∧ But g w w' := by
  have hlt := H.lt
  have hcw : IntKind.i64.wrap (c5 + 1) = c5 + 1 := by rw [IntKind.wrap_i64]; omega
  go_enter Try.func14, Try.ntmps14
  go_wp2_with (first
    | (refine wpl_alloc (by rfl) 40 (by rfl) (.agg (zH).toArray) (zH) zeroHeard rfl ?_; intro w4 L4 s4 b4; (have H4 := H3.below b4 (by omega)); (have J4 := J3.below b4 (by omega)); (have P4 := P3.below b4 (by omega)))
    | ((refine wpl_box (by rfl) 31 _ (by rfl) _ ([.int .i64 l, .int .i64 v, .int .i64 m, .int .i64 st, .int .i64 po, .int .i64 pr, .int .u32 rd, .int .u32 rp, .int .u32 id, .int .u64 ref, .int .u64 org, .int .u64 rec, .int .u64 xmt]) (by rfl) rfl ?_; intro w1 P1 s1 b1); (have H1 := H.below b1 hlt))
    | ((refine wpl_alloc (by rfl) 40 (by rfl) (.agg (zH).toArray) (zH) zeroHeard rfl ?_; intro w2 J2 s2 b2); (have H2 := H1.below b2 (by omega)); (have P2 := P1.below b2 (by omega)))
    | (refine wpl_load (by rfl) 31 _ (by rfl) w.heap.size (by rfl) 31 _ P2 _ Try.underlying31 rfl _ sizeNtp (by rfl) ?_)
    | (go_at_call 27; ((with_reducible refine (hFR _ H2).mono ?_); rintro e w3 ⟨rfl, b3⟩; (have H3 := H2.below b3 (by omega)); (have J3 := J2.below b3 (by omega)); (have P3 := P2.below b3 (by omega)); (have z3 := b3.size)))
    | ((refine wpl_store (by rfl) 40 _ _ (by rfl) w3.heap.size (by rfl) _ (by rfl) _ rfl 40 _ L4 (by rfl) _ sizeHeard (by rfl) (by simp [Value.oneCell']) ?_; intro x5 L5 s5 g5); (have H5 := H4.but g5 (by omega)); (have J5 := J4.but g5 (by omega)); (have P5 := P4.but g5 (by omega)))
    | (refine wpl_load (by rfl) 31 _ (by rfl) w.heap.size (by rfl) 31 _ P5 _ Try.underlying31 rfl _ sizeNtp (by rfl) ?_)
    | (go_at_call 28; ((with_reducible refine (hAC _ H5).mono ?_); rintro e y5 ⟨rfl, H6, g6⟩; (have L6 := L5.but g6 (by omega)); (have J6 := J5.but g6 (by omega)); (have z6 := g6.size)))
    | ((refine wpl_store (by rfl) 40 _ _ (by rfl) w3.heap.size (by rfl) _ (by rfl) _ rfl 40 _ L6 (by rfl) _ sizeHeard (by rfl) (by simp [Value.oneCell']) ?_; intro w5 L7 s7 g7); (have H7 := H6.but g7 (by omega)); (have J7 := J6.but g7 (by omega))))
  have G5 : But g w w5 := ((((((But.of_below b1 (Nat.le_refl _)).then b2 (by omega)).then b3 (by omega)).then b4 (by omega)).new g5 (by omega)).trans g6).new g7 (by omega)
  clear P1 J2 H1 H2 P2 H3 J3 L4 H4 J4 hFR hAC b1 b2 b3 b4 g5 L5 J5 P3 P4 P5 H5 H6 L6 J6 g6 g7
  have L5 := L7
  have J5 := J7
  have H5 := H7
  clear L7 J7 H7
  have q1 := L5.cell (i := 0) rfl
  have q2 := H5.cell (i := 10) rfl
  have q3 := H5.frozen
  have B6 : But g w (w5.setCell ⟨g, 10, none⟩ (.int .i64 (c5 + 1))).drew := But.trans G5 ⟨rfl, rfl, rfl, by simp [World.setCell, World.drew], fun k _ hk => Below.heap_setCell _ _ _ _ (fun e => hk (by rw [e]))⟩
  have H6 : Blk (w5.setCell ⟨g, 10, none⟩ (.int .i64 (c5 + 1))).drew g 57 (asL ver t1 nc false xmt c0 c1 c2 c3 c4 (c5 + 1) c6 c7) := (H5.set 10 (.int .i64 (c5 + 1))).drew
  have L6 : Blk (w5.setCell ⟨g, 10, none⟩ (.int .i64 (c5 + 1))).drew w3.heap.size 40 (hdL 5 co qa qb qd qe) := (L5.but (but_setCell w5 g 10 _) (by omega)).drew
  have J6 : Blk (w5.setCell ⟨g, 10, none⟩ (.int .i64 (c5 + 1))).drew w1.heap.size 40 zH := (J5.but (but_setCell w5 g 10 _) (by omega)).drew
  clear H5 L5 J5 G5
  go_region
  generalize (w5.setCell ⟨g, 10, none⟩ (.int .i64 (c5 + 1))).drew = w6 at H6 L6 J6 B6 ⊢
  clear q1 q2 q3
  go_wp2_with (first
    | (refine wpl_load (by rfl) 40 _ (by rfl) w3.heap.size (by rfl) 40 _ L6 _ Try.underlying40 rfl _ sizeHeard (by rfl) ?_)
    | (refine wpl_store (by rfl) 40 _ _ (by rfl) w1.heap.size (by rfl) _ (by rfl) _ rfl 40 _ J6 (by rfl) _ sizeHeard (by rfl) (by simp [Value.oneCell']) ?_; intro w7 J7 s7 g7))
  obtain ⟨k0, k1, k2, k3, k4, k5⟩ := cells6 J7
  refine bodyPost_ret (v := .agg (hdL 5 co qa qb qd qe).toArray) (by simp [results, Try.results14, go_sem, k0, k1, k2, k3, k4, k5]) rfl ?_
  exact ⟨rfl, H6.but g7 (by omega), B6.new g7 (by omega)⟩
set_option maxRecDepth 100000 in
set_option maxHeartbeats 4000000 in
theorem rec_acc6 (g : Nat) (ver t1 nc : Int) (lx c0 c1 c2 c3 c4 c5 c6 c7 now l v m st po pr rd rp id ref org rec xmt : Int) (co : ByteArray) (qa qb qd qe : Int) (w : World) (H : Blk w g 57 (asL ver t1 nc true lx c0 c1 c2 c3 c4 c5 c6 c7)) (hc : CB c6)
    (hFR : ∀ W, Blk W g 57 (asL ver t1 nc true lx c0 c1 c2 c3 c4 c5 c6 c7) → Calls Try.prog 27 #[.pointer (some ⟨g, 0, none⟩), ntp l v m st po pr rd rp id ref org rec xmt, .int .i64 now] W fun e w' => e = .returned (.tuple #[.agg (hdL 0 ⟨#[]⟩ 0 0 0 0).toArray, .bool false]) ∧ Below W.heap.size W w')
    (hAC : ∀ W, Blk W g 57 (asL ver t1 nc true lx c0 c1 c2 c3 c4 c5 c6 c7) → Calls Try.prog 28 #[.pointer (some ⟨g, 0, none⟩), ntp l v m st po pr rd rp id ref org rec xmt, .int .i64 now] W fun e w' => e = .returned (.agg (hdL 6 co qa qb qd qe).toArray) ∧ Blk w' g 57 (asL ver t1 nc false xmt c0 c1 c2 c3 c4 c5 c6 c7) ∧ But g W w') :
    Calls Try.prog 14 #[.pointer (some ⟨g, 0, none⟩), ntp l v m st po pr rd rp id ref org rec xmt, .int .i64 now] w fun e w' => e = .returned (.agg (hdL 6 co qa qb qd qe).toArray) ∧ Blk w' g 57 (asL ver t1 nc false xmt c0 c1 c2 c3 c4 c5 (c6 + 1) c7) ∧ But g w w' := by
  have hlt := H.lt
  have hcw : IntKind.i64.wrap (c6 + 1) = c6 + 1 := by rw [IntKind.wrap_i64]; omega
  go_enter Try.func14, Try.ntmps14
  go_wp2_with (first
    | (refine wpl_alloc (by rfl) 40 (by rfl) (.agg (zH).toArray) (zH) zeroHeard rfl ?_; intro w4 L4 s4 b4; (have H4 := H3.below b4 (by omega)); (have J4 := J3.below b4 (by omega)); (have P4 := P3.below b4 (by omega)))
    | ((refine wpl_box (by rfl) 31 _ (by rfl) _ ([.int .i64 l, .int .i64 v, .int .i64 m, .int .i64 st, .int .i64 po, .int .i64 pr, .int .u32 rd, .int .u32 rp, .int .u32 id, .int .u64 ref, .int .u64 org, .int .u64 rec, .int .u64 xmt]) (by rfl) rfl ?_; intro w1 P1 s1 b1); (have H1 := H.below b1 hlt))
    | ((refine wpl_alloc (by rfl) 40 (by rfl) (.agg (zH).toArray) (zH) zeroHeard rfl ?_; intro w2 J2 s2 b2); (have H2 := H1.below b2 (by omega)); (have P2 := P1.below b2 (by omega)))
    | (refine wpl_load (by rfl) 31 _ (by rfl) w.heap.size (by rfl) 31 _ P2 _ Try.underlying31 rfl _ sizeNtp (by rfl) ?_)
    | (go_at_call 27; ((with_reducible refine (hFR _ H2).mono ?_); rintro e w3 ⟨rfl, b3⟩; (have H3 := H2.below b3 (by omega)); (have J3 := J2.below b3 (by omega)); (have P3 := P2.below b3 (by omega)); (have z3 := b3.size)))
    | ((refine wpl_store (by rfl) 40 _ _ (by rfl) w3.heap.size (by rfl) _ (by rfl) _ rfl 40 _ L4 (by rfl) _ sizeHeard (by rfl) (by simp [Value.oneCell']) ?_; intro x5 L5 s5 g5); (have H5 := H4.but g5 (by omega)); (have J5 := J4.but g5 (by omega)); (have P5 := P4.but g5 (by omega)))
    | (refine wpl_load (by rfl) 31 _ (by rfl) w.heap.size (by rfl) 31 _ P5 _ Try.underlying31 rfl _ sizeNtp (by rfl) ?_)
    | (go_at_call 28; ((with_reducible refine (hAC _ H5).mono ?_); rintro e y5 ⟨rfl, H6, g6⟩; (have L6 := L5.but g6 (by omega)); (have J6 := J5.but g6 (by omega)); (have z6 := g6.size)))
    | ((refine wpl_store (by rfl) 40 _ _ (by rfl) w3.heap.size (by rfl) _ (by rfl) _ rfl 40 _ L6 (by rfl) _ sizeHeard (by rfl) (by simp [Value.oneCell']) ?_; intro w5 L7 s7 g7); (have H7 := H6.but g7 (by omega)); (have J7 := J6.but g7 (by omega))))
  have G5 : But g w w5 := ((((((But.of_below b1 (Nat.le_refl _)).then b2 (by omega)).then b3 (by omega)).then b4 (by omega)).new g5 (by omega)).trans g6).new g7 (by omega)
  clear P1 J2 H1 H2 P2 H3 J3 L4 H4 J4 hFR hAC b1 b2 b3 b4 g5 L5 J5 P3 P4 P5 H5 H6 L6 J6 g6 g7
  have L5 := L7
  have J5 := J7
  have H5 := H7
  clear L7 J7 H7
  have q1 := L5.cell (i := 0) rfl
  have q2 := H5.cell (i := 11) rfl
  have q3 := H5.frozen
  have B6 : But g w (w5.setCell ⟨g, 11, none⟩ (.int .i64 (c6 + 1))).drew := But.trans G5 ⟨rfl, rfl, rfl, by simp [World.setCell, World.drew], fun k _ hk => Below.heap_setCell _ _ _ _ (fun e => hk (by rw [e]))⟩
  have H6 : Blk (w5.setCell ⟨g, 11, none⟩ (.int .i64 (c6 + 1))).drew g 57 (asL ver t1 nc false xmt c0 c1 c2 c3 c4 c5 (c6 + 1) c7) := (H5.set 11 (.int .i64 (c6 + 1))).drew
  have L6 : Blk (w5.setCell ⟨g, 11, none⟩ (.int .i64 (c6 + 1))).drew w3.heap.size 40 (hdL 6 co qa qb qd qe) := (L5.but (but_setCell w5 g 11 _) (by omega)).drew
  have J6 : Blk (w5.setCell ⟨g, 11, none⟩ (.int .i64 (c6 + 1))).drew w1.heap.size 40 zH := (J5.but (but_setCell w5 g 11 _) (by omega)).drew
  clear H5 L5 J5 G5
  go_region
  generalize (w5.setCell ⟨g, 11, none⟩ (.int .i64 (c6 + 1))).drew = w6 at H6 L6 J6 B6 ⊢
  clear q1 q2 q3
  go_wp2_with (first
    | (refine wpl_load (by rfl) 40 _ (by rfl) w3.heap.size (by rfl) 40 _ L6 _ Try.underlying40 rfl _ sizeHeard (by rfl) ?_)
    | (refine wpl_store (by rfl) 40 _ _ (by rfl) w1.heap.size (by rfl) _ (by rfl) _ rfl 40 _ J6 (by rfl) _ sizeHeard (by rfl) (by simp [Value.oneCell']) ?_; intro w7 J7 s7 g7))
  obtain ⟨k0, k1, k2, k3, k4, k5⟩ := cells6 J7
  refine bodyPost_ret (v := .agg (hdL 6 co qa qb qd qe).toArray) (by simp [results, Try.results14, go_sem, k0, k1, k2, k3, k4, k5]) rfl ?_
  exact ⟨rfl, H6.but g7 (by omega), B6.new g7 (by omega)⟩
set_option maxRecDepth 100000 in
set_option maxHeartbeats 4000000 in
theorem rec_acc7 (g : Nat) (ver t1 nc : Int) (lx c0 c1 c2 c3 c4 c5 c6 c7 now l v m st po pr rd rp id ref org rec xmt : Int) (co : ByteArray) (qa qb qd qe : Int) (w : World) (H : Blk w g 57 (asL ver t1 nc true lx c0 c1 c2 c3 c4 c5 c6 c7)) (hc : CB c7)
    (hFR : ∀ W, Blk W g 57 (asL ver t1 nc true lx c0 c1 c2 c3 c4 c5 c6 c7) → Calls Try.prog 27 #[.pointer (some ⟨g, 0, none⟩), ntp l v m st po pr rd rp id ref org rec xmt, .int .i64 now] W fun e w' => e = .returned (.tuple #[.agg (hdL 0 ⟨#[]⟩ 0 0 0 0).toArray, .bool false]) ∧ Below W.heap.size W w')
    (hAC : ∀ W, Blk W g 57 (asL ver t1 nc true lx c0 c1 c2 c3 c4 c5 c6 c7) → Calls Try.prog 28 #[.pointer (some ⟨g, 0, none⟩), ntp l v m st po pr rd rp id ref org rec xmt, .int .i64 now] W fun e w' => e = .returned (.agg (hdL 7 co qa qb qd qe).toArray) ∧ Blk w' g 57 (asL ver t1 nc false xmt c0 c1 c2 c3 c4 c5 c6 c7) ∧ But g W w') :
    Calls Try.prog 14 #[.pointer (some ⟨g, 0, none⟩), ntp l v m st po pr rd rp id ref org rec xmt, .int .i64 now] w fun e w' => e = .returned (.agg (hdL 7 co qa qb qd qe).toArray) ∧ Blk w' g 57 (asL ver t1 nc false xmt c0 c1 c2 c3 c4 c5 c6 (c7 + 1)) ∧ But g w w' := by
  have hlt := H.lt
  have hcw : IntKind.i64.wrap (c7 + 1) = c7 + 1 := by rw [IntKind.wrap_i64]; omega
  go_enter Try.func14, Try.ntmps14
  go_wp2_with (first
    | (refine wpl_alloc (by rfl) 40 (by rfl) (.agg (zH).toArray) (zH) zeroHeard rfl ?_; intro w4 L4 s4 b4; (have H4 := H3.below b4 (by omega)); (have J4 := J3.below b4 (by omega)); (have P4 := P3.below b4 (by omega)))
    | ((refine wpl_box (by rfl) 31 _ (by rfl) _ ([.int .i64 l, .int .i64 v, .int .i64 m, .int .i64 st, .int .i64 po, .int .i64 pr, .int .u32 rd, .int .u32 rp, .int .u32 id, .int .u64 ref, .int .u64 org, .int .u64 rec, .int .u64 xmt]) (by rfl) rfl ?_; intro w1 P1 s1 b1); (have H1 := H.below b1 hlt))
    | ((refine wpl_alloc (by rfl) 40 (by rfl) (.agg (zH).toArray) (zH) zeroHeard rfl ?_; intro w2 J2 s2 b2); (have H2 := H1.below b2 (by omega)); (have P2 := P1.below b2 (by omega)))
    | (refine wpl_load (by rfl) 31 _ (by rfl) w.heap.size (by rfl) 31 _ P2 _ Try.underlying31 rfl _ sizeNtp (by rfl) ?_)
    | (go_at_call 27; ((with_reducible refine (hFR _ H2).mono ?_); rintro e w3 ⟨rfl, b3⟩; (have H3 := H2.below b3 (by omega)); (have J3 := J2.below b3 (by omega)); (have P3 := P2.below b3 (by omega)); (have z3 := b3.size)))
    | ((refine wpl_store (by rfl) 40 _ _ (by rfl) w3.heap.size (by rfl) _ (by rfl) _ rfl 40 _ L4 (by rfl) _ sizeHeard (by rfl) (by simp [Value.oneCell']) ?_; intro x5 L5 s5 g5); (have H5 := H4.but g5 (by omega)); (have J5 := J4.but g5 (by omega)); (have P5 := P4.but g5 (by omega)))
    | (refine wpl_load (by rfl) 31 _ (by rfl) w.heap.size (by rfl) 31 _ P5 _ Try.underlying31 rfl _ sizeNtp (by rfl) ?_)
    | (go_at_call 28; ((with_reducible refine (hAC _ H5).mono ?_); rintro e y5 ⟨rfl, H6, g6⟩; (have L6 := L5.but g6 (by omega)); (have J6 := J5.but g6 (by omega)); (have z6 := g6.size)))
    | ((refine wpl_store (by rfl) 40 _ _ (by rfl) w3.heap.size (by rfl) _ (by rfl) _ rfl 40 _ L6 (by rfl) _ sizeHeard (by rfl) (by simp [Value.oneCell']) ?_; intro w5 L7 s7 g7); (have H7 := H6.but g7 (by omega)); (have J7 := J6.but g7 (by omega))))
  have G5 : But g w w5 := ((((((But.of_below b1 (Nat.le_refl _)).then b2 (by omega)).then b3 (by omega)).then b4 (by omega)).new g5 (by omega)).trans g6).new g7 (by omega)
  clear P1 J2 H1 H2 P2 H3 J3 L4 H4 J4 hFR hAC b1 b2 b3 b4 g5 L5 J5 P3 P4 P5 H5 H6 L6 J6 g6 g7
  have L5 := L7
  have J5 := J7
  have H5 := H7
  clear L7 J7 H7
  have q1 := L5.cell (i := 0) rfl
  have q2 := H5.cell (i := 12) rfl
  have q3 := H5.frozen
  have B6 : But g w (w5.setCell ⟨g, 12, none⟩ (.int .i64 (c7 + 1))).drew := But.trans G5 ⟨rfl, rfl, rfl, by simp [World.setCell, World.drew], fun k _ hk => Below.heap_setCell _ _ _ _ (fun e => hk (by rw [e]))⟩
  have H6 : Blk (w5.setCell ⟨g, 12, none⟩ (.int .i64 (c7 + 1))).drew g 57 (asL ver t1 nc false xmt c0 c1 c2 c3 c4 c5 c6 (c7 + 1)) := (H5.set 12 (.int .i64 (c7 + 1))).drew
  have L6 : Blk (w5.setCell ⟨g, 12, none⟩ (.int .i64 (c7 + 1))).drew w3.heap.size 40 (hdL 7 co qa qb qd qe) := (L5.but (but_setCell w5 g 12 _) (by omega)).drew
  have J6 : Blk (w5.setCell ⟨g, 12, none⟩ (.int .i64 (c7 + 1))).drew w1.heap.size 40 zH := (J5.but (but_setCell w5 g 12 _) (by omega)).drew
  clear H5 L5 J5 G5
  go_region
  generalize (w5.setCell ⟨g, 12, none⟩ (.int .i64 (c7 + 1))).drew = w6 at H6 L6 J6 B6 ⊢
  clear q1 q2 q3
  go_wp2_with (first
    | (refine wpl_load (by rfl) 40 _ (by rfl) w3.heap.size (by rfl) 40 _ L6 _ Try.underlying40 rfl _ sizeHeard (by rfl) ?_)
    | (refine wpl_store (by rfl) 40 _ _ (by rfl) w1.heap.size (by rfl) _ (by rfl) _ rfl 40 _ J6 (by rfl) _ sizeHeard (by rfl) (by simp [Value.oneCell']) ?_; intro w7 J7 s7 g7))
  obtain ⟨k0, k1, k2, k3, k4, k5⟩ := cells6 J7
  refine bodyPost_ret (v := .agg (hdL 7 co qa qb qd qe).toArray) (by simp [results, Try.results14, go_sem, k0, k1, k2, k3, k4, k5]) rfl ?_
  exact ⟨rfl, H6.but g7 (by omega), B6.new g7 (by omega)⟩
end Go.Proofs.Ytickoncgnjgciaa
