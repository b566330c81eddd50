/- Associations: what Receive computes. Associations: what Receive computes, in one sentence; the reference's Check, Synced, Kiss, heard. TopExchange (G9; P19 to P21, P29 to P31): for every input the law returns true, and its arguments read afterwards as before. No condition. -/
import Derived.Test.YtdnmjeapihjabaaTxZ14
import Derived.RegionTactic
import Derived.Test.YtdnmjeapihjabaaTxZ11
import Derived.Test.YtdnmjeapihjabaaTxZ5
namespace Go.Proofs.Ytdnmjeapihjabaa
open Go.RowKit
set_option linter.unusedSimpArgs false
set_option linter.unusedVariables false
set_option maxRecDepth 100000
def incK (k j c : Int) : Int := if k = j then c + 1 else c
/-- the outcome -/
def rcK (K m now nc t1 : Int) (pd : Bool) (org xmt lx st l id rec : Int) : Int := if rfK K m now nc t1 pd org xmt lx = 9 then acK st l id rec xmt now else rfK K m now nc t1 pd org xmt lx
theorem refuse_any (g : Nat) (ver t1 nc : Int) (pd : Bool) (lx c0 c1 c2 c3 c4 c5 c6 c7 now l v m st po pr rd rp id ref org rec xmt : Int) (w : World) (H : Blk w g 66 (asL ver t1 nc pd lx c0 c1 c2 c3 c4 c5 c6 c7)) (hI : nc = 0 → t1 = 0) :
    (rfK (nchk l v m st po pr) m now nc t1 pd org xmt lx = 9 ∧ pd = true ∧ badB (nchk l v m st po pr) m now nc t1 = false ∧ org = nc ∧ Calls Try.prog 36 #[.pointer (some ⟨g, 0, none⟩), ntp l v m st po pr rd rp id ref org rec xmt, .int .i64 now] w fun e w' => e = .returned (.tuple #[.agg (hdL 0 ⟨#[]⟩ 0 0 0 0).toArray, .bool false]) ∧ Below w.heap.size w w') ∨
    ∃ k, (k = 0 ∨ k = 1 ∨ k = 2 ∨ k = 3) ∧ rfK (nchk l v m st po pr) m now nc t1 pd org xmt lx = k ∧ Calls Try.prog 36 #[.pointer (some ⟨g, 0, none⟩), ntp l v m st po pr rd rp id ref org rec xmt, .int .i64 now] w fun e w' => e = .returned (.tuple #[.agg (hdL k ⟨#[]⟩ 0 0 0 0).toArray, .bool true]) ∧ Below w.heap.size w w' := by
  rcases rf_cases (nchk l v m st po pr) m now nc t1 pd org xmt lx with ⟨h1, h⟩ | ⟨h1, h2, h⟩ | ⟨h1, h2, h3, h⟩ | ⟨h1, h2, h3, h4, h5, h⟩ | ⟨h1, h2, h3, h4, h⟩
  · exact .inr ⟨0, .inl rfl, h, refuse_bad g ver t1 nc pd lx c0 c1 c2 c3 c4 c5 c6 c7 now l v m st po pr rd rp id ref org rec xmt w H hI h1⟩
  · subst h2; exact .inr ⟨1, .inr (.inl rfl), h, refuse_none g ver t1 nc lx c0 c1 c2 c3 c4 c5 c6 c7 now l v m st po pr rd rp id ref org rec xmt w H hI h1⟩
  · subst h2; exact .inr ⟨2, .inr (.inr (.inl rfl)), h, refuse_bogus g ver t1 nc lx c0 c1 c2 c3 c4 c5 c6 c7 now l v m st po pr rd rp id ref org rec xmt w H hI h1 h3⟩
  · subst h2; exact .inr ⟨3, .inr (.inr (.inr rfl)), h, refuse_dup g ver t1 nc lx c0 c1 c2 c3 c4 c5 c6 c7 now l v m st po pr rd rp id ref org rec xmt w H hI h1 h3 h4 h5⟩
  · subst h2; exact .inl ⟨h, rfl, h1, h3, refuse_pass g ver t1 nc lx c0 c1 c2 c3 c4 c5 c6 c7 now l v m st po pr rd rp id ref org rec xmt w H hI h1 h3 h4⟩
abbrev CB (c : Int) : Prop := 0 ≤ c ∧ c ≤ 1000000
set_option maxRecDepth 100000 in
set_option maxHeartbeats 4000000 in
theorem rec_ref0 (g : Nat) (ver t1 nc : Int) (pd : Bool) (lx c0 c1 c2 c3 c4 c5 c6 c7 now l v m st po pr rd rp id ref org rec xmt : Int) (w : World) (H : Blk w g 66 (asL ver t1 nc pd lx c0 c1 c2 c3 c4 c5 c6 c7)) (hc : CB c0)
    (hFR : ∀ W, Blk W g 66 (asL ver t1 nc pd lx c0 c1 c2 c3 c4 c5 c6 c7) → Calls Try.prog 36 #[.pointer (some ⟨g, 0, none⟩), ntp l v m st po pr rd rp id ref org rec xmt, .int .i64 now] W fun e w' => e = .returned (.tuple #[.agg (hdL 0 ⟨#[]⟩ 0 0 0 0).toArray, .bool true]) ∧ Below W.heap.size W w') :
    Calls Try.prog 12 #[.pointer (some ⟨g, 0, none⟩), ntp l v m st po pr rd rp id ref org rec xmt, .int .i64 now] w fun e w' => e = .returned (.agg (hdL 0 ⟨#[]⟩ 0 0 0 0).toArray) ∧ Blk w' g 66 (asL ver t1 nc pd lx (c0 + 1) c1 c2 c3 c4 c5 c6 c7) ∧ But g w w' := by
  have hlt := H.lt
  have hcw : IntKind.i64.wrap (c0 + 1) = c0 + 1 := by rw [IntKind.wrap_i64]; omega
  go_enter Try.func12, Try.ntmps12
  go_wp2_with (first
    | (refine wpl_alloc (by rfl) 51 (by rfl) (.agg (zH).toArray) (zH) zeroHeard rfl ?_; intro w4 L4 s4 b4; (have H4 := H3.below b4 (by omega)); (have J4 := J3.below b4 (by omega)))
    | ((refine wpl_box (by rfl) 29 _ (by rfl) _ ([.int .i64 l, .int .i64 v, .int .i64 m, .int .i64 st, .int .i64 po, .int .i64 pr, .int .u32 rd, .int .u32 rp, .int .u32 id, .int .u64 ref, .int .u64 org, .int .u64 rec, .int .u64 xmt]) (by rfl) rfl ?_; intro w1 P1 s1 b1); (have H1 := H.below b1 hlt))
    | ((refine wpl_alloc (by rfl) 51 (by rfl) (.agg (zH).toArray) (zH) zeroHeard rfl ?_; intro w2 J2 s2 b2); (have H2 := H1.below b2 (by omega)); (have P2 := P1.below b2 (by omega)))
    | (refine wpl_load (by rfl) 29 _ (by rfl) w.heap.size (by rfl) 29 _ P2 _ Try.underlying29 rfl _ sizeNtp (by rfl) ?_)
    | (go_at_call 36; ((with_reducible refine (hFR _ H2).mono ?_); rintro e w3 ⟨rfl, b3⟩; (have H3 := H2.below b3 (by omega)); (have J3 := J2.below b3 (by omega)); (have z3 := b3.size)))
    | ((refine wpl_store (by rfl) 51 _ _ (by rfl) w3.heap.size (by rfl) _ (by rfl) _ rfl 51 _ L4 (by rfl) _ sizeHeard (by rfl) (by simp [Value.oneCell']) ?_; intro w5 L5 s5 g5); (have H5 := H4.but g5 (by omega)); (have J5 := J4.but g5 (by omega))))
  have G5 : But g w w5 := ((((But.of_below b1 (Nat.le_refl _)).then b2 (by omega)).then b3 (by omega)).then b4 (by omega)).new g5 (by omega)
  clear P1 J2 H1 H2 P2 H3 J3 L4 H4 J4 hFR b1 b2 b3 b4 g5
  have q1 := L5.cell (i := 0) rfl
  have q2 := H5.cell (i := 5) rfl
  have q3 := H5.frozen
  have B6 : But g w (w5.setCell ⟨g, 5, none⟩ (.int .i64 (c0 + 1))).drew := But.trans G5 ⟨rfl, rfl, rfl, by simp [World.setCell, World.drew], fun k _ hk => Below.heap_setCell _ _ _ _ (fun e => hk (by rw [e]))⟩
  have H6 : Blk (w5.setCell ⟨g, 5, none⟩ (.int .i64 (c0 + 1))).drew g 66 (asL ver t1 nc pd lx (c0 + 1) c1 c2 c3 c4 c5 c6 c7) := (H5.set 5 (.int .i64 (c0 + 1))).drew
  have L6 : Blk (w5.setCell ⟨g, 5, none⟩ (.int .i64 (c0 + 1))).drew w3.heap.size 51 (hdL 0 ⟨#[]⟩ 0 0 0 0) := (L5.but (but_setCell w5 g 5 _) (by omega)).drew
  have J6 : Blk (w5.setCell ⟨g, 5, none⟩ (.int .i64 (c0 + 1))).drew w1.heap.size 51 zH := (J5.but (but_setCell w5 g 5 _) (by omega)).drew
  clear H5 L5 J5 G5
  go_region
  generalize (w5.setCell ⟨g, 5, none⟩ (.int .i64 (c0 + 1))).drew = w6 at H6 L6 J6 B6 ⊢
  clear q1 q2 q3
  go_wp2_with (first
    | (refine wpl_load (by rfl) 51 _ (by rfl) w3.heap.size (by rfl) 51 _ L6 _ Try.underlying51 rfl _ sizeHeard (by rfl) ?_)
    | (refine wpl_store (by rfl) 51 _ _ (by rfl) w1.heap.size (by rfl) _ (by rfl) _ rfl 51 _ J6 (by rfl) _ sizeHeard (by rfl) (by simp [Value.oneCell']) ?_; intro w7 J7 s7 g7))
  obtain ⟨k0, k1, k2, k3, k4, k5⟩ := cells6 J7
  refine bodyPost_ret (v := .agg (hdL 0 ⟨#[]⟩ 0 0 0 0).toArray) (by simp [results, Try.results12, go_sem, k0, k1, k2, k3, k4, k5]) rfl ?_
  exact ⟨rfl, H6.but g7 (by omega), B6.new g7 (by omega)⟩
set_option maxRecDepth 100000 in
set_option maxHeartbeats 4000000 in
theorem rec_ref1 (g : Nat) (ver t1 nc : Int) (pd : Bool) (lx c0 c1 c2 c3 c4 c5 c6 c7 now l v m st po pr rd rp id ref org rec xmt : Int) (w : World) (H : Blk w g 66 (asL ver t1 nc pd lx c0 c1 c2 c3 c4 c5 c6 c7)) (hc : CB c1)
    (hFR : ∀ W, Blk W g 66 (asL ver t1 nc pd lx c0 c1 c2 c3 c4 c5 c6 c7) → Calls Try.prog 36 #[.pointer (some ⟨g, 0, none⟩), ntp l v m st po pr rd rp id ref org rec xmt, .int .i64 now] W fun e w' => e = .returned (.tuple #[.agg (hdL 1 ⟨#[]⟩ 0 0 0 0).toArray, .bool true]) ∧ Below W.heap.size W w') :
    Calls Try.prog 12 #[.pointer (some ⟨g, 0, none⟩), ntp l v m st po pr rd rp id ref org rec xmt, .int .i64 now] w fun e w' => e = .returned (.agg (hdL 1 ⟨#[]⟩ 0 0 0 0).toArray) ∧ Blk w' g 66 (asL ver t1 nc pd lx c0 (c1 + 1) c2 c3 c4 c5 c6 c7) ∧ But g w w' := by
  have hlt := H.lt
  have hcw : IntKind.i64.wrap (c1 + 1) = c1 + 1 := by rw [IntKind.wrap_i64]; omega
  go_enter Try.func12, Try.ntmps12
  go_wp2_with (first
    | (refine wpl_alloc (by rfl) 51 (by rfl) (.agg (zH).toArray) (zH) zeroHeard rfl ?_; intro w4 L4 s4 b4; (have H4 := H3.below b4 (by omega)); (have J4 := J3.below b4 (by omega)))
    | ((refine wpl_box (by rfl) 29 _ (by rfl) _ ([.int .i64 l, .int .i64 v, .int .i64 m, .int .i64 st, .int .i64 po, .int .i64 pr, .int .u32 rd, .int .u32 rp, .int .u32 id, .int .u64 ref, .int .u64 org, .int .u64 rec, .int .u64 xmt]) (by rfl) rfl ?_; intro w1 P1 s1 b1); (have H1 := H.below b1 hlt))
    | ((refine wpl_alloc (by rfl) 51 (by rfl) (.agg (zH).toArray) (zH) zeroHeard rfl ?_; intro w2 J2 s2 b2); (have H2 := H1.below b2 (by omega)); (have P2 := P1.below b2 (by omega)))
    | (refine wpl_load (by rfl) 29 _ (by rfl) w.heap.size (by rfl) 29 _ P2 _ Try.underlying29 rfl _ sizeNtp (by rfl) ?_)
    | (go_at_call 36; ((with_reducible refine (hFR _ H2).mono ?_); rintro e w3 ⟨rfl, b3⟩; (have H3 := H2.below b3 (by omega)); (have J3 := J2.below b3 (by omega)); (have z3 := b3.size)))
    | ((refine wpl_store (by rfl) 51 _ _ (by rfl) w3.heap.size (by rfl) _ (by rfl) _ rfl 51 _ L4 (by rfl) _ sizeHeard (by rfl) (by simp [Value.oneCell']) ?_; intro w5 L5 s5 g5); (have H5 := H4.but g5 (by omega)); (have J5 := J4.but g5 (by omega))))
  have G5 : But g w w5 := ((((But.of_below b1 (Nat.le_refl _)).then b2 (by omega)).then b3 (by omega)).then b4 (by omega)).new g5 (by omega)
  clear P1 J2 H1 H2 P2 H3 J3 L4 H4 J4 hFR b1 b2 b3 b4 g5
  have q1 := L5.cell (i := 0) rfl
  have q2 := H5.cell (i := 6) rfl
  have q3 := H5.frozen
  have B6 : But g w (w5.setCell ⟨g, 6, none⟩ (.int .i64 (c1 + 1))).drew := But.trans G5 ⟨rfl, rfl, rfl, by simp [World.setCell, World.drew], fun k _ hk => Below.heap_setCell _ _ _ _ (fun e => hk (by rw [e]))⟩
  have H6 : Blk (w5.setCell ⟨g, 6, none⟩ (.int .i64 (c1 + 1))).drew g 66 (asL ver t1 nc pd lx c0 (c1 + 1) c2 c3 c4 c5 c6 c7) := (H5.set 6 (.int .i64 (c1 + 1))).drew
  have L6 : Blk (w5.setCell ⟨g, 6, none⟩ (.int .i64 (c1 + 1))).drew w3.heap.size 51 (hdL 1 ⟨#[]⟩ 0 0 0 0) := (L5.but (but_setCell w5 g 6 _) (by omega)).drew
  have J6 : Blk (w5.setCell ⟨g, 6, none⟩ (.int .i64 (c1 + 1))).drew w1.heap.size 51 zH := (J5.but (but_setCell w5 g 6 _) (by omega)).drew
  clear H5 L5 J5 G5
  go_region
  generalize (w5.setCell ⟨g, 6, none⟩ (.int .i64 (c1 + 1))).drew = w6 at H6 L6 J6 B6 ⊢
  clear q1 q2 q3
  go_wp2_with (first
    | (refine wpl_load (by rfl) 51 _ (by rfl) w3.heap.size (by rfl) 51 _ L6 _ Try.underlying51 rfl _ sizeHeard (by rfl) ?_)
    | (refine wpl_store (by rfl) 51 _ _ (by rfl) w1.heap.size (by rfl) _ (by rfl) _ rfl 51 _ J6 (by rfl) _ sizeHeard (by rfl) (by simp [Value.oneCell']) ?_; intro w7 J7 s7 g7))
  obtain ⟨k0, k1, k2, k3, k4, k5⟩ := cells6 J7
  refine bodyPost_ret (v := .agg (hdL 1 ⟨#[]⟩ 0 0 0 0).toArray) (by simp [results, Try.results12, go_sem, k0, k1, k2, k3, k4, k5]) rfl ?_
  exact ⟨rfl, H6.but g7 (by omega), B6.new g7 (by omega)⟩
set_option maxRecDepth 100000 in
set_option maxHeartbeats 4000000 in
theorem rec_ref2 (g : Nat) (ver t1 nc : Int) (pd : Bool) (lx c0 c1 c2 c3 c4 c5 c6 c7 now l v m st po pr rd rp id ref org rec xmt : Int) (w : World) (H : Blk w g 66 (asL ver t1 nc pd lx c0 c1 c2 c3 c4 c5 c6 c7)) (hc : CB c2)
    (hFR : ∀ W, Blk W g 66 (asL ver t1 nc pd lx c0 c1 c2 c3 c4 c5 c6 c7) → Calls Try.prog 36 #[.pointer (some ⟨g, 0, none⟩), ntp l v m st po pr rd rp id ref org rec xmt, .int .i64 now] W fun e w' => e = .returned (.tuple #[.agg (hdL 2 ⟨#[]⟩ 0 0 0 0).toArray, .bool true]) ∧ Below W.heap.size W w') :
    Calls Try.prog 12 #[.pointer (some ⟨g, 0, none⟩), ntp l v m st po pr rd rp id ref org rec xmt, .int .i64 now] w fun e w' => e = .returned (.agg (hdL 2 ⟨#[]⟩ 0 0 0 0).toArray) ∧ Blk w' g 66 (asL ver t1 nc pd lx c0 c1 (c2 + 1) c3 c4 c5 c6 c7) ∧ But g w w' := by
  have hlt := H.lt
  have hcw : IntKind.i64.wrap (c2 + 1) = c2 + 1 := by rw [IntKind.wrap_i64]; omega
  go_enter Try.func12, Try.ntmps12
  go_wp2_with (first
    | (refine wpl_alloc (by rfl) 51 (by rfl) (.agg (zH).toArray) (zH) zeroHeard rfl ?_; intro w4 L4 s4 b4; (have H4 := H3.below b4 (by omega)); (have J4 := J3.below b4 (by omega)))
    | ((refine wpl_box (by rfl) 29 _ (by rfl) _ ([.int .i64 l, .int .i64 v, .int .i64 m, .int .i64 st, .int .i64 po, .int .i64 pr, .int .u32 rd, .int .u32 rp, .int .u32 id, .int .u64 ref, .int .u64 org, .int .u64 rec, .int .u64 xmt]) (by rfl) rfl ?_; intro w1 P1 s1 b1); (have H1 := H.below b1 hlt))
    | ((refine wpl_alloc (by rfl) 51 (by rfl) (.agg (zH).toArray) (zH) zeroHeard rfl ?_; intro w2 J2 s2 b2); (have H2 := H1.below b2 (by omega)); (have P2 := P1.below b2 (by omega)))
    | (refine wpl_load (by rfl) 29 _ (by rfl) w.heap.size (by rfl) 29 _ P2 _ Try.underlying29 rfl _ sizeNtp (by rfl) ?_)
    | (go_at_call 36; ((with_reducible refine (hFR _ H2).mono ?_); rintro e w3 ⟨rfl, b3⟩; (have H3 := H2.below b3 (by omega)); (have J3 := J2.below b3 (by omega)); (have z3 := b3.size)))
    | ((refine wpl_store (by rfl) 51 _ _ (by rfl) w3.heap.size (by rfl) _ (by rfl) _ rfl 51 _ L4 (by rfl) _ sizeHeard (by rfl) (by simp [Value.oneCell']) ?_; intro w5 L5 s5 g5); (have H5 := H4.but g5 (by omega)); (have J5 := J4.but g5 (by omega))))
  have G5 : But g w w5 := ((((But.of_below b1 (Nat.le_refl _)).then b2 (by omega)).then b3 (by omega)).then b4 (by omega)).new g5 (by omega)
  clear P1 J2 H1 H2 P2 H3 J3 L4 H4 J4 hFR b1 b2 b3 b4 g5
  have q1 := L5.cell (i := 0) rfl
  have q2 := H5.cell (i := 7) rfl
  have q3 := H5.frozen
  have B6 : But g w (w5.setCell ⟨g, 7, none⟩ (.int .i64 (c2 + 1))).drew := But.trans G5 ⟨rfl, rfl, rfl, by simp [World.setCell, World.drew], fun k _ hk => Below.heap_setCell _ _ _ _ (fun e => hk (by rw [e]))⟩
  have H6 : Blk (w5.setCell ⟨g, 7, none⟩ (.int .i64 (c2 + 1))).drew g 66 (asL ver t1 nc pd lx c0 c1 (c2 + 1) c3 c4 c5 c6 c7) := (H5.set 7 (.int .i64 (c2 + 1))).drew
  have L6 : Blk (w5.setCell ⟨g, 7, none⟩ (.int .i64 (c2 + 1))).drew w3.heap.size 51 (hdL 2 ⟨#[]⟩ 0 0 0 0) := (L5.but (but_setCell w5 g 7 _) (by omega)).drew
  have J6 : Blk (w5.setCell ⟨g, 7, none⟩ (.int .i64 (c2 + 1))).drew w1.heap.size 51 zH := (J5.but (but_setCell w5 g 7 _) (by omega)).drew
  clear H5 L5 J5 G5
  go_region
  generalize (w5.setCell ⟨g, 7, none⟩ (.int .i64 (c2 + 1))).drew = w6 at H6 L6 J6 B6 ⊢
  clear q1 q2 q3
  go_wp2_with (first
    | (refine wpl_load (by rfl) 51 _ (by rfl) w3.heap.size (by rfl) 51 _ L6 _ Try.underlying51 rfl _ sizeHeard (by rfl) ?_)
    | (refine wpl_store (by rfl) 51 _ _ (by rfl) w1.heap.size (by rfl) _ (by rfl) _ rfl 51 _ J6 (by rfl) _ sizeHeard (by rfl) (by simp [Value.oneCell']) ?_; intro w7 J7 s7 g7))
  obtain ⟨k0, k1, k2, k3, k4, k5⟩ := cells6 J7
  refine bodyPost_ret (v := .agg (hdL 2 ⟨#[]⟩ 0 0 0 0).toArray) (by simp [results, Try.results12, go_sem, k0, k1, k2, k3, k4, k5]) rfl ?_
  exact ⟨rfl, H6.but g7 (by omega), B6.new g7 (by omega)⟩
set_option maxRecDepth 100000 in
set_option maxHeartbeats 4000000 in
theorem rec_ref3 (g : Nat) (ver t1 nc : Int) (pd : Bool) (lx c0 c1 c2 c3 c4 c5 c6 c7 now l v m st po pr rd rp id ref org rec xmt : Int) (w : World) (H : Blk w g 66 (asL ver t1 nc pd lx c0 c1 c2 c3 c4 c5 c6 c7)) (hc : CB c3)
    (hFR : ∀ W, Blk W g 66 (asL ver t1 nc pd lx c0 c1 c2 c3 c4 c5 c6 c7) → Calls Try.prog 36 #[.pointer (some ⟨g, 0, none⟩), ntp l v m st po pr rd rp id ref org rec xmt, .int .i64 now] W fun e w' => e = .returned (.tuple #[.agg (hdL 3 ⟨#[]⟩ 0 0 0 0).toArray, .bool true]) ∧ Below W.heap.size W w') :
    Calls Try.prog 12 #[.pointer (some ⟨g, 0, none⟩), ntp l v m st po pr rd rp id ref org rec xmt, .int .i64 now] w fun e w' => e = .returned (.agg (hdL 3 ⟨#[]⟩ 0 0 0 0).toArray) ∧ Blk w' g 66 (asL ver t1 nc pd lx c0 c1 c2 (c3 + 1) c4 c5 c6 c7) ∧ But g w w' := by
  have hlt := H.lt
  have hcw : IntKind.i64.wrap (c3 + 1) = c3 + 1 := by rw [IntKind.wrap_i64]; omega
  go_enter Try.func12, Try.ntmps12
  go_wp2_with (first
    | (refine wpl_alloc (by rfl) 51 (by rfl) (.agg (zH).toArray) (zH) zeroHeard rfl ?_; intro w4 L4 s4 b4; (have H4 := H3.below b4 (by omega)); (have J4 := J3.below b4 (by omega)))
    | ((refine wpl_box (by rfl) 29 _ (by rfl) _ ([.int .i64 l, .int .i64 v, .int .i64 m, .int .i64 st, .int .i64 po, .int .i64 pr, .int .u32 rd, .int .u32 rp, .int .u32 id, .int .u64 ref, .int .u64 org, .int .u64 rec, .int .u64 xmt]) (by rfl) rfl ?_; intro w1 P1 s1 b1); (have H1 := H.below b1 hlt))
    | ((refine wpl_alloc (by rfl) 51 (by rfl) (.agg (zH).toArray) (zH) zeroHeard rfl ?_; intro w2 J2 s2 b2); (have H2 := H1.below b2 (by omega)); (have P2 := P1.below b2 (by omega)))
    | (refine wpl_load (by rfl) 29 _ (by rfl) w.heap.size (by rfl) 29 _ P2 _ Try.underlying29 rfl _ sizeNtp (by rfl) ?_)
    | (go_at_call 36; ((with_reducible refine (hFR _ H2).mono ?_); rintro e w3 ⟨rfl, b3⟩; (have H3 := H2.below b3 (by omega)); (have J3 := J2.below b3 (by omega)); (have z3 := b3.size)))
    | ((refine wpl_store (by rfl) 51 _ _ (by rfl) w3.heap.size (by rfl) _ (by rfl) _ rfl 51 _ L4 (by rfl) _ sizeHeard (by rfl) (by simp [Value.oneCell']) ?_; intro w5 L5 s5 g5); (have H5 := H4.but g5 (by omega)); (have J5 := J4.but g5 (by omega))))
  have G5 : But g w w5 := ((((But.of_below b1 (Nat.le_refl _)).then b2 (by omega)).then b3 (by omega)).then b4 (by omega)).new g5 (by omega)
  clear P1 J2 H1 H2 P2 H3 J3 L4 H4 J4 hFR b1 b2 b3 b4 g5
  have q1 := L5.cell (i := 0) rfl
  have q2 := H5.cell (i := 8) rfl
  have q3 := H5.frozen
  have B6 : But g w (w5.setCell ⟨g, 8, none⟩ (.int .i64 (c3 + 1))).drew := But.trans G5 ⟨rfl, rfl, rfl, by simp [World.setCell, World.drew], fun k _ hk => Below.heap_setCell _ _ _ _ (fun e => hk (by rw [e]))⟩
  have H6 : Blk (w5.setCell ⟨g, 8, none⟩ (.int .i64 (c3 + 1))).drew g 66 (asL ver t1 nc pd lx c0 c1 c2 (c3 + 1) c4 c5 c6 c7) := (H5.set 8 (.int .i64 (c3 + 1))).drew
  have L6 : Blk (w5.setCell ⟨g, 8, none⟩ (.int .i64 (c3 + 1))).drew w3.heap.size 51 (hdL 3 ⟨#[]⟩ 0 0 0 0) := (L5.but (but_setCell w5 g 8 _) (by omega)).drew
  have J6 : Blk (w5.setCell ⟨g, 8, none⟩ (.int .i64 (c3 + 1))).drew w1.heap.size 51 zH := (J5.but (but_setCell w5 g 8 _) (by omega)).drew
  clear H5 L5 J5 G5
  go_region
  generalize (w5.setCell ⟨g, 8, none⟩ (.int .i64 (c3 + 1))).drew = w6 at H6 L6 J6 B6 ⊢
  clear q1 q2 q3
  go_wp2_with (first
    | (refine wpl_load (by rfl) 51 _ (by rfl) w3.heap.size (by rfl) 51 _ L6 _ Try.underlying51 rfl _ sizeHeard (by rfl) ?_)
    | (refine wpl_store (by rfl) 51 _ _ (by rfl) w1.heap.size (by rfl) _ (by rfl) _ rfl 51 _ J6 (by rfl) _ sizeHeard (by rfl) (by simp [Value.oneCell']) ?_; intro w7 J7 s7 g7))
  obtain ⟨k0, k1, k2, k3, k4, k5⟩ := cells6 J7
  refine bodyPost_ret (v := .agg (hdL 3 ⟨#[]⟩ 0 0 0 0).toArray) (by simp [results, Try.results12, go_sem, k0, k1, k2, k3, k4, k5]) rfl ?_
  exact ⟨rfl, H6.but g7 (by omega), B6.new g7 (by omega)⟩
set_option maxRecDepth 100000 in
set_option maxHeartbeats 4000000 in
theorem rec_acc4 (g : Nat) (ver t1 nc : Int) (lx c0 c1 c2 c3 c4 c5 c6 c7 now l v m st po pr rd rp id ref org rec xmt : Int) (co : ByteArray) (qa qb qd qe : Int) (w : World) (H : Blk w g 66 (asL ver t1 nc true lx c0 c1 c2 c3 c4 c5 c6 c7)) (hc : CB c4)
    (hFR : ∀ W, Blk W g 66 (asL ver t1 nc true lx c0 c1 c2 c3 c4 c5 c6 c7) → Calls Try.prog 36 #[.pointer (some ⟨g, 0, none⟩), ntp l v m st po pr rd rp id ref org rec xmt, .int .i64 now] W fun e w' => e = .returned (.tuple #[.agg (hdL 0 ⟨#[]⟩ 0 0 0 0).toArray, .bool false]) ∧ Below W.heap.size W w')
    (hAC : ∀ W, Blk W g 66 (asL ver t1 nc true lx c0 c1 c2 c3 c4 c5 c6 c7) → Calls Try.prog 37 #[.pointer (some ⟨g, 0, none⟩), ntp l v m st po pr rd rp id ref org rec xmt, .int .i64 now] W fun e w' => e = .returned (.agg (hdL 4 co qa qb qd qe).toArray) ∧ Blk w' g 66 (asL ver t1 nc false xmt c0 c1 c2 c3 c4 c5 c6 c7) ∧ But g W w') :
    Calls Try.prog 12 #[.pointer (some ⟨g, 0, none⟩), ntp l v m st po pr rd rp id ref org rec xmt, .int .i64 now] w fun e w' => e = .returned (.agg (hdL 4 co qa qb qd qe).toArray) ∧ Blk w' g 66 (asL ver t1 nc false xmt c0 c1 c2 c3 (c4 + 1) c5 c6 c7) ∧ But g w w' := by
  have hlt := H.lt
  have hcw : IntKind.i64.wrap (c4 + 1) = c4 + 1 := by rw [IntKind.wrap_i64]; omega
  go_enter Try.func12, Try.ntmps12
  go_wp2_with (first
    | (refine wpl_alloc (by rfl) 51 (by rfl) (.agg (zH).toArray) (zH) zeroHeard rfl ?_; intro w4 L4 s4 b4; (have H4 := H3.below b4 (by omega)); (have J4 := J3.below b4 (by omega)); (have P4 := P3.below b4 (by omega)))
    | ((refine wpl_box (by rfl) 29 _ (by rfl) _ ([.int .i64 l, .int .i64 v, .int .i64 m, .int .i64 st, .int .i64 po, .int .i64 pr, .int .u32 rd, .int .u32 rp, .int .u32 id, .int .u64 ref, .int .u64 org, .int .u64 rec, .int .u64 xmt]) (by rfl) rfl ?_; intro w1 P1 s1 b1); (have H1 := H.below b1 hlt))
    | ((refine wpl_alloc (by rfl) 51 (by rfl) (.agg (zH).toArray) (zH) zeroHeard rfl ?_; intro w2 J2 s2 b2); (have H2 := H1.below b2 (by omega)); (have P2 := P1.below b2 (by omega)))
    | (refine wpl_load (by rfl) 29 _ (by rfl) w.heap.size (by rfl) 29 _ P2 _ Try.underlying29 rfl _ sizeNtp (by rfl) ?_)
    | (go_at_call 36; ((with_reducible refine (hFR _ H2).mono ?_); rintro e w3 ⟨rfl, b3⟩; (have H3 := H2.below b3 (by omega)); (have J3 := J2.below b3 (by omega)); (have P3 := P2.below b3 (by omega)); (have z3 := b3.size)))
    | ((refine wpl_store (by rfl) 51 _ _ (by rfl) w3.heap.size (by rfl) _ (by rfl) _ rfl 51 _ L4 (by rfl) _ sizeHeard (by rfl) (by simp [Value.oneCell']) ?_; intro x5 L5 s5 g5); (have H5 := H4.but g5 (by omega)); (have J5 := J4.but g5 (by omega)); (have P5 := P4.but g5 (by omega)))
    | (refine wpl_load (by rfl) 29 _ (by rfl) w.heap.size (by rfl) 29 _ P5 _ Try.underlying29 rfl _ sizeNtp (by rfl) ?_)
    | (go_at_call 37; ((with_reducible refine (hAC _ H5).mono ?_); rintro e y5 ⟨rfl, H6, g6⟩; (have L6 := L5.but g6 (by omega)); (have J6 := J5.but g6 (by omega)); (have z6 := g6.size)))
    | ((refine wpl_store (by rfl) 51 _ _ (by rfl) w3.heap.size (by rfl) _ (by rfl) _ rfl 51 _ L6 (by rfl) _ sizeHeard (by rfl) (by simp [Value.oneCell']) ?_; intro w5 L7 s7 g7); (have H7 := H6.but g7 (by omega)); (have J7 := J6.but g7 (by omega))))
  have G5 : But g w w5 := ((((((But.of_below b1 (Nat.le_refl _)).then b2 (by omega)).then b3 (by omega)).then b4 (by omega)).new g5 (by omega)).trans g6).new g7 (by omega)
  clear P1 J2 H1 H2 P2 H3 J3 L4 H4 J4 hFR hAC b1 b2 b3 b4 g5 L5 J5 P3 P4 P5 H5 H6 L6 J6 g6 g7
  have L5 := L7
  have J5 := J7
  have H5 := H7
  clear L7 J7 H7
  have q1 := L5.cell (i := 0) rfl
  have q2 := H5.cell (i := 9) rfl
  have q3 := H5.frozen
  have B6 : But g w (w5.setCell ⟨g, 9, none⟩ (.int .i64 (c4 + 1))).drew := But.trans G5 ⟨rfl, rfl, rfl, by simp [World.setCell, World.drew], fun k _ hk => Below.heap_setCell _ _ _ _ (fun e => hk (by rw [e]))⟩
  have H6 : Blk (w5.setCell ⟨g, 9, none⟩ (.int .i64 (c4 + 1))).drew g 66 (asL ver t1 nc false xmt c0 c1 c2 c3 (c4 + 1) c5 c6 c7) := (H5.set 9 (.int .i64 (c4 + 1))).drew
  have L6 : Blk (w5.setCell ⟨g, 9, none⟩ (.int .i64 (c4 + 1))).drew w3.heap.size 51 (hdL 4 co qa qb qd qe) := (L5.but (but_setCell w5 g 9 _) (by omega)).drew
  have J6 : Blk (w5.setCell ⟨g, 9, none⟩ (.int .i64 (c4 + 1))).drew w1.heap.size 51 zH := (J5.but (but_setCell w5 g 9 _) (by omega)).drew
  clear H5 L5 J5 G5
  go_region
  generalize (w5.setCell ⟨g, 9, none⟩ (.int .i64 (c4 + 1))).drew = w6 at H6 L6 J6 B6 ⊢
  clear q1 q2 q3
  go_wp2_with (first
    | (refine wpl_load (by rfl) 51 _ (by rfl) w3.heap.size (by rfl) 51 _ L6 _ Try.underlying51 rfl _ sizeHeard (by rfl) ?_)
    | (refine wpl_store (by rfl) 51 _ _ (by rfl) w1.heap.size (by rfl) _ (by rfl) _ rfl 51 _ J6 (by rfl) _ sizeHeard (by rfl) (by simp [Value.oneCell']) ?_; intro w7 J7 s7 g7))
  obtain ⟨k0, k1, k2, k3, k4, k5⟩ := cells6 J7
  refine bodyPost_ret (v := .agg (hdL 4 co qa qb qd qe).toArray) (by simp [results, Try.results12, go_sem, k0, k1, k2, k3, k4, k5]) rfl ?_
  exact ⟨rfl, H6.but g7 (by omega), B6.new g7 (by omega)⟩
set_option maxRecDepth 100000 in
set_option maxHeartbeats 4000000 in
theorem rec_acc5 (g : Nat) (ver t1 nc : Int) (lx c0 c1 c2 c3 c4 c5 c6 c7 now l v m st po pr rd rp id ref org rec xmt : Int) (co : ByteArray) (qa qb qd qe : Int) (w : World) (H : Blk w g 66 (asL ver t1 nc true lx c0 c1 c2 c3 c4 c5 c6 c7)) (hc : CB c5)
    (hFR : ∀ W, Blk W g 66 (asL ver t1 nc true lx c0 c1 c2 c3 c4 c5 c6 c7) → Calls Try.prog 36 #[.pointer (some ⟨g, 0, none⟩), ntp l v m st po pr rd rp id ref org rec xmt, .int .i64 now] W fun e w' => e = .returned (.tuple #[.agg (hdL 0 ⟨#[]⟩ 0 0 0 0).toArray, .bool false]) ∧ Below W.heap.size W w')
    (hAC : ∀ W, Blk W g 66 (asL ver t1 nc true lx c0 c1 c2 c3 c4 c5 c6 c7) → Calls Try.prog 37 #[.pointer (some ⟨g, 0, none⟩), ntp l v m st po pr rd rp id ref org rec xmt, .int .i64 now] W fun e w' => e = .returned (.agg (hdL 5 co qa qb qd qe).toArray) ∧ Blk w' g 66 (asL ver t1 nc false xmt c0 c1 c2 c3 c4 c5 c6 c7) ∧ But g W w') :
    Calls Try.prog 12 #[.pointer (some ⟨g, 0, none⟩), ntp l v m st po pr rd rp id ref org rec xmt, .int .i64 now] w fun e w' => e = .returned (.agg (hdL 5 co qa qb qd qe).toArray) ∧ Blk w' g 66 (asL ver t1 nc false xmt c0 c1 c2 c3 c4 (c5 + 1) c6 c7) ∧ But g w w' := by
  have hlt := H.lt
  have hcw : IntKind.i64.wrap (c5 + 1) = c5 + 1 := by rw [IntKind.wrap_i64]; omega
  go_enter Try.func12, Try.ntmps12
  go_wp2_with (first
    | (refine wpl_alloc (by rfl) 51 (by rfl) (.agg (zH).toArray) (zH) zeroHeard rfl ?_; intro w4 L4 s4 b4; (have H4 := H3.below b4 (by omega)); (have J4 := J3.below b4 (by omega)); (have P4 := P3.below b4 (by omega)))
    | ((refine wpl_box (by rfl) 29 _ (by rfl) _ ([.int .i64 l, .int .i64 v, .int .i64 m, .int .i64 st, .int .i64 po, .int .i64 pr, .int .u32 rd, .int .u32 rp, .int .u32 id, .int .u64 ref, .int .u64 org, .int .u64 rec, .int .u64 xmt]) (by rfl) rfl ?_; intro w1 P1 s1 b1); (have H1 := H.below b1 hlt))
    | ((refine wpl_alloc (by rfl) 51 (by rfl) (.agg (zH).toArray) (zH) zeroHeard rfl ?_; intro w2 J2 s2 b2); (have H2 := H1.below b2 (by omega)); (have P2 := P1.below b2 (by omega)))
    | (refine wpl_load (by rfl) 29 _ (by rfl) w.heap.size (by rfl) 29 _ P2 _ Try.underlying29 rfl _ sizeNtp (by rfl) ?_)
    | (go_at_call 36; ((with_reducible refine (hFR _ H2).mono ?_); rintro e w3 ⟨rfl, b3⟩; (have H3 := H2.below b3 (by omega)); (have J3 := J2.below b3 (by omega)); (have P3 := P2.below b3 (by omega)); (have z3 := b3.size)))
    | ((refine wpl_store (by rfl) 51 _ _ (by rfl) w3.heap.size (by rfl) _ (by rfl) _ rfl 51 _ L4 (by rfl) _ sizeHeard (by rfl) (by simp [Value.oneCell']) ?_; intro x5 L5 s5 g5); (have H5 := H4.but g5 (by omega)); (have J5 := J4.but g5 (by omega)); (have P5 := P4.but g5 (by omega)))
    | (refine wpl_load (by rfl) 29 _ (by rfl) w.heap.size (by rfl) 29 _ P5 _ Try.underlying29 rfl _ sizeNtp (by rfl) ?_)
    | (go_at_call 37; ((with_reducible refine (hAC _ H5).mono ?_); rintro e y5 ⟨rfl, H6, g6⟩; (have L6 := L5.but g6 (by omega)); (have J6 := J5.but g6 (by omega)); (have z6 := g6.size)))
    | ((refine wpl_store (by rfl) 51 _ _ (by rfl) w3.heap.size (by rfl) _ (by rfl) _ rfl 51 _ L6 (by rfl) _ sizeHeard (by rfl) (by simp [Value.oneCell']) ?_; intro w5 L7 s7 g7); (have H7 := H6.but g7 (by omega)); (have J7 := J6.but g7 (by omega))))
  have G5 : But g w w5 := ((((((But.of_below b1 (Nat.le_refl _)).then b2 (by omega)).then b3 (by omega)).then b4 (by omega)).new g5 (by omega)).trans g6).new g7 (by omega)
  clear P1 J2 H1 H2 P2 H3 J3 L4 H4 J4 hFR hAC b1 b2 b3 b4 g5 L5 J5 P3 P4 P5 H5 H6 L6 J6 g6 g7
  have L5 := L7
  have J5 := J7
  have H5 := H7
  clear L7 J7 H7
  have q1 := L5.cell (i := 0) rfl
  have q2 := H5.cell (i := 10) rfl
  have q3 := H5.frozen
  have B6 : But g w (w5.setCell ⟨g, 10, none⟩ (.int .i64 (c5 + 1))).drew := But.trans G5 ⟨rfl, rfl, rfl, by simp [World.setCell, World.drew], fun k _ hk => Below.heap_setCell _ _ _ _ (fun e => hk (by rw [e]))⟩
  have H6 : Blk (w5.setCell ⟨g, 10, none⟩ (.int .i64 (c5 + 1))).drew g 66 (asL ver t1 nc false xmt c0 c1 c2 c3 c4 (c5 + 1) c6 c7) := (H5.set 10 (.int .i64 (c5 + 1))).drew
  have L6 : Blk (w5.setCell ⟨g, 10, none⟩ (.int .i64 (c5 + 1))).drew w3.heap.size 51 (hdL 5 co qa qb qd qe) := (L5.but (but_setCell w5 g 10 _) (by omega)).drew
  have J6 : Blk (w5.setCell ⟨g, 10, none⟩ (.int .i64 (c5 + 1))).drew w1.heap.size 51 zH := (J5.but (but_setCell w5 g 10 _) (by omega)).drew
  clear H5 L5 J5 G5
  go_region
  generalize (w5.setCell ⟨g, 10, none⟩ (.int .i64 (c5 + 1))).drew = w6 at H6 L6 J6 B6 ⊢
  clear q1 q2 q3
  go_wp2_with (first
    | (refine wpl_load (by rfl) 51 _ (by rfl) w3.heap.size (by rfl) 51 _ L6 _ Try.underlying51 rfl _ sizeHeard (by rfl) ?_)
    | (refine wpl_store (by rfl) 51 _ _ (by rfl) w1.heap.size (by rfl) _ (by rfl) _ rfl 51 _ J6 (by rfl) _ sizeHeard (by rfl) (by simp [Value.oneCell']) ?_; intro w7 J7 s7 g7))
  obtain ⟨k0, k1, k2, k3, k4, k5⟩ := cells6 J7
  refine bodyPost_ret (v := .agg (hdL 5 co qa qb qd qe).toArray) (by simp [results, Try.results12, go_sem, k0, k1, k2, k3, k4, k5]) rfl ?_
  exact ⟨rfl, H6.but g7 (by omega), B6.new g7 (by omega)⟩
set_option maxRecDepth 100000 in
set_option maxHeartbeats 4000000 in
theorem rec_acc6 (g : Nat) (ver t1 nc : Int) (lx c0 c1 c2 c3 c4 c5 c6 c7 now l v m st po pr rd rp id ref org rec xmt : Int) (co : ByteArray) (qa qb qd qe : Int) (w : World) (H : Blk w g 66 (asL ver t1 nc true lx c0 c1 c2 c3 c4 c5 c6 c7)) (hc : CB c6)
    (hFR : ∀ W, Blk W g 66 (asL ver t1 nc true lx c0 c1 c2 c3 c4 c5 c6 c7) → Calls Try.prog 36 #[.pointer (some ⟨g, 0, none⟩), ntp l v m st po pr rd rp id ref org rec xmt, .int .i64 now] W fun e w' => e = .returned (.tuple #[.agg (hdL 0 ⟨#[]⟩ 0 0 0 0).toArray, .bool false]) ∧ Below W.heap.size W w')
    (hAC : ∀ W, Blk W g 66 (asL ver t1 nc true lx c0 c1 c2 c3 c4 c5 c6 c7) → Calls Try.prog 37 #[.pointer (some ⟨g, 0, none⟩), ntp l v m st po pr rd rp id ref org rec xmt, .int .i64 now] W fun e w' => e = .returned (.agg (hdL 6 co qa qb qd qe).toArray) ∧ Blk w' g 66 (asL ver t1 nc false xmt c0 c1 c2 c3 c4 c5 c6 c7) ∧ But g W w') :
    Calls Try.prog 12 #[.pointer (some ⟨g, 0, none⟩), ntp l v m st po pr rd rp id ref org rec xmt, .int .i64 now] w fun e w' => e = .returned (.agg (hdL 6 co qa qb qd qe).toArray) ∧ Blk w' g 66 (asL ver t1 nc false xmt c0 c1 c2 c3 c4 c5 (c6 + 1) c7) ∧ But g w w' := by
  have hlt := H.lt
  have hcw : IntKind.i64.wrap (c6 + 1) = c6 + 1 := by rw [IntKind.wrap_i64]; omega
  go_enter Try.func12, Try.ntmps12
  go_wp2_with (first
    | (refine wpl_alloc (by rfl) 51 (by rfl) (.agg (zH).toArray) (zH) zeroHeard rfl ?_; intro w4 L4 s4 b4; (have H4 := H3.below b4 (by omega)); (have J4 := J3.below b4 (by omega)); (have P4 := P3.below b4 (by omega)))
    | ((refine wpl_box (by rfl) 29 _ (by rfl) _ ([.int .i64 l, .int .i64 v, .int .i64 m, .int .i64 st, .int .i64 po, .int .i64 pr, .int .u32 rd, .int .u32 rp, .int .u32 id, .int .u64 ref, .int .u64 org, .int .u64 rec, .int .u64 xmt]) (by rfl) rfl ?_; intro w1 P1 s1 b1); (have H1 := H.below b1 hlt))
    | ((refine wpl_alloc (by rfl) 51 (by rfl) (.agg (zH).toArray) (zH) zeroHeard rfl ?_; intro w2 J2 s2 b2); (have H2 := H1.below b2 (by omega)); (have P2 := P1.below b2 (by omega)))
    | (refine wpl_load (by rfl) 29 _ (by rfl) w.heap.size (by rfl) 29 _ P2 _ Try.underlying29 rfl _ sizeNtp (by rfl) ?_)
    | (go_at_call 36; ((with_reducible refine (hFR _ H2).mono ?_); rintro e w3 ⟨rfl, b3⟩; (have H3 := H2.below b3 (by omega)); (have J3 := J2.below b3 (by omega)); (have P3 := P2.below b3 (by omega)); (have z3 := b3.size)))
    | ((refine wpl_store (by rfl) 51 _ _ (by rfl) w3.heap.size (by rfl) _ (by rfl) _ rfl 51 _ L4 (by rfl) _ sizeHeard (by rfl) (by simp [Value.oneCell']) ?_; intro x5 L5 s5 g5); (have H5 := H4.but g5 (by omega)); (have J5 := J4.but g5 (by omega)); (have P5 := P4.but g5 (by omega)))
    | (refine wpl_load (by rfl) 29 _ (by rfl) w.heap.size (by rfl) 29 _ P5 _ Try.underlying29 rfl _ sizeNtp (by rfl) ?_)
    | (go_at_call 37; ((with_reducible refine (hAC _ H5).mono ?_); rintro e y5 ⟨rfl, H6, g6⟩; (have L6 := L5.but g6 (by omega)); (have J6 := J5.but g6 (by omega)); (have z6 := g6.size)))
    | ((refine wpl_store (by rfl) 51 _ _ (by rfl) w3.heap.size (by rfl) _ (by rfl) _ rfl 51 _ L6 (by rfl) _ sizeHeard (by rfl) (by simp [Value.oneCell']) ?_; intro w5 L7 s7 g7); (have H7 := H6.but g7 (by omega)); (have J7 := J6.but g7 (by omega))))
  have G5 : But g w w5 := ((((((But.of_below b1 (Nat.le_refl _)).then b2 (by omega)).then b3 (by omega)).then b4 (by omega)).new g5 (by omega)).trans g6).new g7 (by omega)
  clear P1 J2 H1 H2 P2 H3 J3 L4 H4 J4 hFR hAC b1 b2 b3 b4 g5 L5 J5 P3 P4 P5 H5 H6 L6 J6 g6 g7
  have L5 := L7
  have J5 := J7
  have H5 := H7
  clear L7 J7 H7
  have q1 := L5.cell (i := 0) rfl
  have q2 := H5.cell (i := 11) rfl
  have q3 := H5.frozen
  have B6 : But g w (w5.setCell ⟨g, 11, none⟩ (.int .i64 (c6 + 1))).drew := But.trans G5 ⟨rfl, rfl, rfl, by simp [World.setCell, World.drew], fun k _ hk => Below.heap_setCell _ _ _ _ (fun e => hk (by rw [e]))⟩
  have H6 : Blk (w5.setCell ⟨g, 11, none⟩ (.int .i64 (c6 + 1))).drew g 66 (asL ver t1 nc false xmt c0 c1 c2 c3 c4 c5 (c6 + 1) c7) := (H5.set 11 (.int .i64 (c6 + 1))).drew
  have L6 : Blk (w5.setCell ⟨g, 11, none⟩ (.int .i64 (c6 + 1))).drew w3.heap.size 51 (hdL 6 co qa qb qd qe) := (L5.but (but_setCell w5 g 11 _) (by omega)).drew
  have J6 : Blk (w5.setCell ⟨g, 11, none⟩ (.int .i64 (c6 + 1))).drew w1.heap.size 51 zH := (J5.but (but_setCell w5 g 11 _) (by omega)).drew
  clear H5 L5 J5 G5
  go_region
  generalize (w5.setCell ⟨g, 11, none⟩ (.int .i64 (c6 + 1))).drew = w6 at H6 L6 J6 B6 ⊢
  clear q1 q2 q3
  go_wp2_with (first
    | (refine wpl_load (by rfl) 51 _ (by rfl) w3.heap.size (by rfl) 51 _ L6 _ Try.underlying51 rfl _ sizeHeard (by rfl) ?_)
    | (refine wpl_store (by rfl) 51 _ _ (by rfl) w1.heap.size (by rfl) _ (by rfl) _ rfl 51 _ J6 (by rfl) _ sizeHeard (by rfl) (by simp [Value.oneCell']) ?_; intro w7 J7 s7 g7))
  obtain ⟨k0, k1, k2, k3, k4, k5⟩ := cells6 J7
  refine bodyPost_ret (v := .agg (hdL 6 co qa qb qd qe).toArray) (by simp [results, Try.results12, go_sem, k0, k1, k2, k3, k4, k5]) rfl ?_
  exact ⟨rfl, H6.but g7 (by omega), B6.new g7 (by omega)⟩
set_option maxRecDepth 100000 in
set_option maxHeartbeats 4000000 in
theorem rec_acc7 (g : Nat) (ver t1 nc : Int) (lx c0 c1 c2 c3 c4 c5 c6 c7 now l v m st po pr rd rp id ref org rec xmt : Int) (co : ByteArray) (qa qb qd qe : Int) (w : World) (H : Blk w g 66 (asL ver t1 nc true lx c0 c1 c2 c3 c4 c5 c6 c7)) (hc : CB c7)
    (hFR : ∀ W, Blk W g 66 (asL ver t1 nc true lx c0 c1 c2 c3 c4 c5 c6 c7) → Calls Try.prog 36 #[.pointer (some ⟨g, 0, none⟩), ntp l v m st po pr rd rp id ref org rec xmt, .int .i64 now] W fun e w' => e = .returned (.tuple #[.agg (hdL 0 ⟨#[]⟩ 0 0 0 0).toArray, .bool false]) ∧ Below W.heap.size W w')
    (hAC : ∀ W, Blk W g 66 (asL ver t1 nc true lx c0 c1 c2 c3 c4 c5 c6 c7) → Calls Try.prog 37 #[.pointer (some ⟨g, 0, none⟩), ntp l v m st po pr rd rp id ref org rec xmt, .int .i64 now] W fun e w' => e = .returned (.agg (hdL 7 co qa qb qd qe).toArray) ∧ Blk w' g 66 (asL ver t1 nc false xmt c0 c1 c2 c3 c4 c5 c6 c7) ∧ But g W w') :
    Calls Try.prog 12 #[.pointer (some ⟨g, 0, none⟩), ntp l v m st po pr rd rp id ref org rec xmt, .int .i64 now] w fun e w' => e = .returned (.agg (hdL 7 co qa qb qd qe).toArray) ∧ Blk w' g 66 (asL ver t1 nc false xmt c0 c1 c2 c3 c4 c5 c6 (c7 + 1)) ∧ But g w w' := by
  have hlt := H.lt
  have hcw : IntKind.i64.wrap (c7 + 1) = c7 + 1 := by rw [IntKind.wrap_i64]; omega
  go_enter Try.func12, Try.ntmps12
  go_wp2_with (first
    | (refine wpl_alloc (by rfl) 51 (by rfl) (.agg (zH).toArray) (zH) zeroHeard rfl ?_; intro w4 L4 s4 b4; (have H4 := H3.below b4 (by omega)); (have J4 := J3.below b4 (by omega)); (have P4 := P3.below b4 (by omega)))
    | ((refine wpl_box (by rfl) 29 _ (by rfl) _ ([.int .i64 l, .int .i64 v, .int .i64 m, .int .i64 st, .int .i64 po, .int .i64 pr, .int .u32 rd, .int .u32 rp, .int .u32 id, .int .u64 ref, .int .u64 org, .int .u64 rec, .int .u64 xmt]) (by rfl) rfl ?_; intro w1 P1 s1 b1); (have H1 := H.below b1 hlt))
    | ((refine wpl_alloc (by rfl) 51 (by rfl) (.agg (zH).toArray) (zH) zeroHeard rfl ?_; intro w2 J2 s2 b2); (have H2 := H1.below b2 (by omega)); (have P2 := P1.below b2 (by omega)))
    | (refine wpl_load (by rfl) 29 _ (by rfl) w.heap.size (by rfl) 29 _ P2 _ Try.underlying29 rfl _ sizeNtp (by rfl) ?_)
    | (go_at_call 36; ((with_reducible refine (hFR _ H2).mono ?_); rintro e w3 ⟨rfl, b3⟩; (have H3 := H2.below b3 (by omega)); (have J3 := J2.below b3 (by omega)); (have P3 := P2.below b3 (by omega)); (have z3 := b3.size)))
    | ((refine wpl_store (by rfl) 51 _ _ (by rfl) w3.heap.size (by rfl) _ (by rfl) _ rfl 51 _ L4 (by rfl) _ sizeHeard (by rfl) (by simp [Value.oneCell']) ?_; intro x5 L5 s5 g5); (have H5 := H4.but g5 (by omega)); (have J5 := J4.but g5 (by omega)); (have P5 := P4.but g5 (by omega)))
    | (refine wpl_load (by rfl) 29 _ (by rfl) w.heap.size (by rfl) 29 _ P5 _ Try.underlying29 rfl _ sizeNtp (by rfl) ?_)
    | (go_at_call 37; ((with_reducible refine (hAC _ H5).mono ?_); rintro e y5 ⟨rfl, H6, g6⟩; (have L6 := L5.but g6 (by omega)); (have J6 := J5.but g6 (by omega)); (have z6 := g6.size)))
    | ((refine wpl_store (by rfl) 51 _ _ (by rfl) w3.heap.size (by rfl) _ (by rfl) _ rfl 51 _ L6 (by rfl) _ sizeHeard (by rfl) (by simp [Value.oneCell']) ?_; intro w5 L7 s7 g7); (have H7 := H6.but g7 (by omega)); (have J7 := J6.but g7 (by omega))))
  have G5 : But g w w5 := ((((((But.of_below b1 (Nat.le_refl _)).then b2 (by omega)).then b3 (by omega)).then b4 (by omega)).new g5 (by omega)).trans g6).new g7 (by omega)
  clear P1 J2 H1 H2 P2 H3 J3 L4 H4 J4 hFR hAC b1 b2 b3 b4 g5 L5 J5 P3 P4 P5 H5 H6 L6 J6 g6 g7
  have L5 := L7
  have J5 := J7
  have H5 := H7
  clear L7 J7 H7
  have q1 := L5.cell (i := 0) rfl
  have q2 := H5.cell (i := 12) rfl
  have q3 := H5.frozen
  have B6 : But g w (w5.setCell ⟨g, 12, none⟩ (.int .i64 (c7 + 1))).drew := But.trans G5 ⟨rfl, rfl, rfl, by simp [World.setCell, World.drew], fun k _ hk => Below.heap_setCell _ _ _ _ (fun e => hk (by rw [e]))⟩
  have H6 : Blk (w5.setCell ⟨g, 12, none⟩ (.int .i64 (c7 + 1))).drew g 66 (asL ver t1 nc false xmt c0 c1 c2 c3 c4 c5 c6 (c7 + 1)) := (H5.set 12 (.int .i64 (c7 + 1))).drew
  have L6 : Blk (w5.setCell ⟨g, 12, none⟩ (.int .i64 (c7 + 1))).drew w3.heap.size 51 (hdL 7 co qa qb qd qe) := (L5.but (but_setCell w5 g 12 _) (by omega)).drew
  have J6 : Blk (w5.setCell ⟨g, 12, none⟩ (.int .i64 (c7 + 1))).drew w1.heap.size 51 zH := (J5.but (but_setCell w5 g 12 _) (by omega)).drew
  clear H5 L5 J5 G5
  go_region
  generalize (w5.setCell ⟨g, 12, none⟩ (.int .i64 (c7 + 1))).drew = w6 at H6 L6 J6 B6 ⊢
  clear q1 q2 q3
  go_wp2_with (first
    | (refine wpl_load (by rfl) 51 _ (by rfl) w3.heap.size (by rfl) 51 _ L6 _ Try.underlying51 rfl _ sizeHeard (by rfl) ?_)
    | (refine wpl_store (by rfl) 51 _ _ (by rfl) w1.heap.size (by rfl) _ (by rfl) _ rfl 51 _ J6 (by rfl) _ sizeHeard (by rfl) (by simp [Value.oneCell']) ?_; intro w7 J7 s7 g7))
  obtain ⟨k0, k1, k2, k3, k4, k5⟩ := cells6 J7
  refine bodyPost_ret (v := .agg (hdL 7 co qa qb qd qe).toArray) (by simp [results, Try.results12, go_sem, k0, k1, k2, k3, k4, k5]) rfl ?_
  exact ⟨rfl, H6.but g7 (by omega), B6.new g7 (by omega)⟩
end Go.Proofs.Ytdnmjeapihjabaa
namespace Go.Proofs.Ytdnmjeapihjabaa
open Go.RowKit
set_option linter.unusedSimpArgs false
set_option linter.unusedVariables false
set_option maxRecDepth 100000
def kK (R A : Int) : Int := if R = 9 then A else R
def kCo (R : Int) (s : ByteArray) : ByteArray := if R = 9 then s else ⟨#[]⟩
def kQ (R A x : Int) : Int := if R = 9 then (if A = 7 then x else 0) else 0
def kPd (R : Int) (pd : Bool) : Bool := if R = 9 then false else pd
def kLx (R x lx : Int) : Int := if R = 9 then x else lx
abbrev rcL (R A : Int) (s : ByteArray) (t1 r x now : Int) : List Value := hdL (kK R A) (kCo R s) (kQ R A t1) (kQ R A r) (kQ R A x) (kQ R A now)
theorem ac_k (st l id rec xmt now : Int) : acK st l id rec xmt now = 4 ∨ acK st l id rec xmt now = 5 ∨ acK st l id rec xmt now = 6 ∨ acK st l id rec xmt now = 7 := by
  rcases ac_cases st l id rec xmt now with ⟨_, h⟩ | ⟨_, _, h⟩ | ⟨_, _, _, h⟩ | ⟨_, _, _, _, h⟩ | ⟨_, _, _, _, _, h⟩ | ⟨_, _, _, _, _, h⟩ <;> omega
set_option maxRecDepth 100000 in
theorem receive_any (g : Nat) (ver t1 nc : Int) (pd : Bool) (lx c0 c1 c2 c3 c4 c5 c6 c7 now l v m st po pr rd rp id ref org rec xmt R A : Int) (w : World) (H : Blk w g 66 (asL ver t1 nc pd lx c0 c1 c2 c3 c4 c5 c6 c7)) (hI : nc = 0 → t1 = 0) (hid : 0 ≤ id ∧ id ≤ 4294967295) (hc0 : CB c0) (hc1 : CB c1) (hc2 : CB c2) (hc3 : CB c3) (hc4 : CB c4) (hc5 : CB c5) (hc6 : CB c6) (hc7 : CB c7)
    (hR : rfK (nchk l v m st po pr) m now nc t1 pd org xmt lx = R) (hA : acK st l id rec xmt now = A) :
    Calls Try.prog 12 #[.pointer (some ⟨g, 0, none⟩), ntp l v m st po pr rd rp id ref org rec xmt, .int .i64 now] w fun e w' => e = .returned (.agg (rcL R A (ksS st id) t1 (insV rec now) (insV xmt now) now).toArray) ∧ Blk w' g 66 (asL ver t1 nc (kPd R pd) (kLx R xmt lx) (incK (kK R A) 0 c0) (incK (kK R A) 1 c1) (incK (kK R A) 2 c2) (incK (kK R A) 3 c3) (incK (kK R A) 4 c4) (incK (kK R A) 5 c5) (incK (kK R A) 6 c6) (incK (kK R A) 7 c7)) ∧ But g w w' := by
  rcases refuse_any g ver t1 nc pd lx c0 c1 c2 c3 c4 c5 c6 c7 now l v m st po pr rd rp id ref org rec xmt w H hI with ⟨h9, rfl, hb, ho, _⟩ | ⟨k, hk, hRk, _⟩
  · obtain ⟨_, _, hn, _⟩ := good_parts hI hb
    have hF : ∀ W, Blk W g 66 (asL ver t1 nc true lx c0 c1 c2 c3 c4 c5 c6 c7) → Calls Try.prog 36 #[.pointer (some ⟨g, 0, none⟩), ntp l v m st po pr rd rp id ref org rec xmt, .int .i64 now] W fun e w' => e = .returned (.tuple #[.agg (hdL 0 ⟨#[]⟩ 0 0 0 0).toArray, .bool false]) ∧ Below W.heap.size W w' := fun W HW => by
      rcases refuse_any g ver t1 nc true lx c0 c1 c2 c3 c4 c5 c6 c7 now l v m st po pr rd rp id ref org rec xmt W HW hI with ⟨_, _, _, _, h⟩ | ⟨k, hk, hRk, _⟩
      · exact h
      · omega
    have hAC := fun W HW => accept_any g ver t1 nc true lx c0 c1 c2 c3 c4 c5 c6 c7 now l v m st po pr rd rp id ref org rec xmt W HW hid hn
    obtain rfl : R = 9 := by omega
    rcases ac_k st l id rec xmt now with hk | hk | hk | hk
    · obtain rfl : A = 4 := by omega
      simp only [acH, hk] at hAC
      exact rec_acc4 g ver t1 nc lx c0 c1 c2 c3 c4 c5 c6 c7 now l v m st po pr rd rp id ref org rec xmt _ _ _ _ _ w H hc4 hF hAC
    · obtain rfl : A = 5 := by omega
      simp only [acH, hk] at hAC
      exact rec_acc5 g ver t1 nc lx c0 c1 c2 c3 c4 c5 c6 c7 now l v m st po pr rd rp id ref org rec xmt _ _ _ _ _ w H hc5 hF hAC
    · obtain rfl : A = 6 := by omega
      simp only [acH, hk] at hAC
      exact rec_acc6 g ver t1 nc lx c0 c1 c2 c3 c4 c5 c6 c7 now l v m st po pr rd rp id ref org rec xmt _ _ _ _ _ w H hc6 hF hAC
    · obtain rfl : A = 7 := by omega
      simp only [acH, hk] at hAC
      exact rec_acc7 g ver t1 nc lx c0 c1 c2 c3 c4 c5 c6 c7 now l v m st po pr rd rp id ref org rec xmt _ _ _ _ _ w H hc7 hF hAC
  · have hF : ∀ W, Blk W g 66 (asL ver t1 nc pd lx c0 c1 c2 c3 c4 c5 c6 c7) → Calls Try.prog 36 #[.pointer (some ⟨g, 0, none⟩), ntp l v m st po pr rd rp id ref org rec xmt, .int .i64 now] W fun e w' => e = .returned (.tuple #[.agg (hdL k ⟨#[]⟩ 0 0 0 0).toArray, .bool true]) ∧ Below W.heap.size W w' := fun W HW => by
      rcases refuse_any g ver t1 nc pd lx c0 c1 c2 c3 c4 c5 c6 c7 now l v m st po pr rd rp id ref org rec xmt W HW hI with ⟨h9, _⟩ | ⟨k', hk', hRk', h⟩
      · omega
      · obtain rfl : k = k' := by omega
        exact h
    obtain rfl : R = k := by omega
    rcases hk with rfl | rfl | rfl | rfl
    · exact rec_ref0 g ver t1 nc pd lx c0 c1 c2 c3 c4 c5 c6 c7 now l v m st po pr rd rp id ref org rec xmt w H hc0 hF
    · exact rec_ref1 g ver t1 nc pd lx c0 c1 c2 c3 c4 c5 c6 c7 now l v m st po pr rd rp id ref org rec xmt w H hc1 hF
    · exact rec_ref2 g ver t1 nc pd lx c0 c1 c2 c3 c4 c5 c6 c7 now l v m st po pr rd rp id ref org rec xmt w H hc2 hF
    · exact rec_ref3 g ver t1 nc pd lx c0 c1 c2 c3 c4 c5 c6 c7 now l v m st po pr rd rp id ref org rec xmt w H hc3 hF
end Go.Proofs.Ytdnmjeapihjabaa
namespace Go.Proofs.Ytdnmjeapihjabaa
open Go.ChangeShapes Go.WideShapes Go.ChangeAt Go.RowKit Go.Joins
set_option linter.unusedSimpArgs false
set_option linter.unusedVariables false
set_option maxRecDepth 100000
abbrev qdL (a b d e : Int) : List Value := [.int .i64 a, .int .i64 b, .int .i64 d, .int .i64 e]
theorem zeroRt : (Try.prog.info? 34).map (·.zero) = some (some (.agg (rtL 0 0 0 0).toArray)) := by kernel_rfl
/-- the guards of the law -/
structure TxIn (a b d e o n : Int) : Prop where
  a0 : decide (a < 0) = false
  a1 : decide (35184372088832 < a) = false
  b0 : decide (b < 0) = false
  b1 : decide (1099511627776 < b) = false
  d0 : decide (d < 0) = false
  d1 : decide (1099511627776 < d) = false
  e0 : decide (e < 0) = false
  e1 : decide (1099511627776 < e) = false
  o0 : decide (o < -35184372088832) = false
  o1 : decide (35184372088832 < o) = false
  n0 : (n == 0) = false
set_option maxRecDepth 100000 in
set_option maxHeartbeats 8000000 in
theorem tx_skip (a b d e o n : Int) (w : World) (h : ¬ TxIn a b d e o n) :
    Calls Try.prog 3 #[.agg (qdL a b d e).toArray, .int .i64 o, .int .u64 n] w fun r w' => r = .returned (.bool true) ∧ Below w.heap.size w w' := by
  cases h1 : decide (a < 0) with
  | true =>
    clear h
    go_enter Try.func3, Try.ntmps3
    go_wp2_with (first
      | (refine wpl_box (by rfl) 23 _ (by rfl) _ (qdL a b d e) (by rfl) rfl ?_; intro w1 P1 s1 b1)
      | (refine wpl_loadf (by rfl) 3 _ (by rfl) w.heap.size 0 (by rfl) _ _ P1 _ rfl _ Try.underlying3 rfl ?_) | (refine wpl_loadf (by rfl) 3 _ (by rfl) w.heap.size 1 (by rfl) _ _ P1 _ rfl _ Try.underlying3 rfl ?_) | (refine wpl_loadf (by rfl) 3 _ (by rfl) w.heap.size 2 (by rfl) _ _ P1 _ rfl _ Try.underlying3 rfl ?_) | (refine wpl_loadf (by rfl) 3 _ (by rfl) w.heap.size 3 (by rfl) _ _ P1 _ rfl _ Try.underlying3 rfl ?_))
    go_ret
    exact ⟨rfl, b1⟩
  | false =>
    cases h2 : decide (35184372088832 < a) with
    | true =>
      clear h
      go_enter Try.func3, Try.ntmps3
      go_wp2_with (first
        | (refine wpl_box (by rfl) 23 _ (by rfl) _ (qdL a b d e) (by rfl) rfl ?_; intro w1 P1 s1 b1)
        | (refine wpl_loadf (by rfl) 3 _ (by rfl) w.heap.size 0 (by rfl) _ _ P1 _ rfl _ Try.underlying3 rfl ?_) | (refine wpl_loadf (by rfl) 3 _ (by rfl) w.heap.size 1 (by rfl) _ _ P1 _ rfl _ Try.underlying3 rfl ?_) | (refine wpl_loadf (by rfl) 3 _ (by rfl) w.heap.size 2 (by rfl) _ _ P1 _ rfl _ Try.underlying3 rfl ?_) | (refine wpl_loadf (by rfl) 3 _ (by rfl) w.heap.size 3 (by rfl) _ _ P1 _ rfl _ Try.underlying3 rfl ?_))
      go_ret
      exact ⟨rfl, b1⟩
    | false =>
      cases h3 : decide (b < 0) with
      | true =>
        clear h
        go_enter Try.func3, Try.ntmps3
        go_wp2_with (first
          | (refine wpl_box (by rfl) 23 _ (by rfl) _ (qdL a b d e) (by rfl) rfl ?_; intro w1 P1 s1 b1)
          | (refine wpl_loadf (by rfl) 3 _ (by rfl) w.heap.size 0 (by rfl) _ _ P1 _ rfl _ Try.underlying3 rfl ?_) | (refine wpl_loadf (by rfl) 3 _ (by rfl) w.heap.size 1 (by rfl) _ _ P1 _ rfl _ Try.underlying3 rfl ?_) | (refine wpl_loadf (by rfl) 3 _ (by rfl) w.heap.size 2 (by rfl) _ _ P1 _ rfl _ Try.underlying3 rfl ?_) | (refine wpl_loadf (by rfl) 3 _ (by rfl) w.heap.size 3 (by rfl) _ _ P1 _ rfl _ Try.underlying3 rfl ?_))
        go_ret
        exact ⟨rfl, b1⟩
      | false =>
        cases h4 : decide (1099511627776 < b) with
        | true =>
          clear h
          go_enter Try.func3, Try.ntmps3
          go_wp2_with (first
            | (refine wpl_box (by rfl) 23 _ (by rfl) _ (qdL a b d e) (by rfl) rfl ?_; intro w1 P1 s1 b1)
            | (refine wpl_loadf (by rfl) 3 _ (by rfl) w.heap.size 0 (by rfl) _ _ P1 _ rfl _ Try.underlying3 rfl ?_) | (refine wpl_loadf (by rfl) 3 _ (by rfl) w.heap.size 1 (by rfl) _ _ P1 _ rfl _ Try.underlying3 rfl ?_) | (refine wpl_loadf (by rfl) 3 _ (by rfl) w.heap.size 2 (by rfl) _ _ P1 _ rfl _ Try.underlying3 rfl ?_) | (refine wpl_loadf (by rfl) 3 _ (by rfl) w.heap.size 3 (by rfl) _ _ P1 _ rfl _ Try.underlying3 rfl ?_))
          go_ret
          exact ⟨rfl, b1⟩
        | false =>
          cases h5 : decide (d < 0) with
          | true =>
            clear h
            go_enter Try.func3, Try.ntmps3
            go_wp2_with (first
              | (refine wpl_box (by rfl) 23 _ (by rfl) _ (qdL a b d e) (by rfl) rfl ?_; intro w1 P1 s1 b1)
              | (refine wpl_loadf (by rfl) 3 _ (by rfl) w.heap.size 0 (by rfl) _ _ P1 _ rfl _ Try.underlying3 rfl ?_) | (refine wpl_loadf (by rfl) 3 _ (by rfl) w.heap.size 1 (by rfl) _ _ P1 _ rfl _ Try.underlying3 rfl ?_) | (refine wpl_loadf (by rfl) 3 _ (by rfl) w.heap.size 2 (by rfl) _ _ P1 _ rfl _ Try.underlying3 rfl ?_) | (refine wpl_loadf (by rfl) 3 _ (by rfl) w.heap.size 3 (by rfl) _ _ P1 _ rfl _ Try.underlying3 rfl ?_))
            go_ret
            exact ⟨rfl, b1⟩
          | false =>
            cases h6 : decide (1099511627776 < d) with
            | true =>
              clear h
              go_enter Try.func3, Try.ntmps3
              go_wp2_with (first
                | (refine wpl_box (by rfl) 23 _ (by rfl) _ (qdL a b d e) (by rfl) rfl ?_; intro w1 P1 s1 b1)
                | (refine wpl_loadf (by rfl) 3 _ (by rfl) w.heap.size 0 (by rfl) _ _ P1 _ rfl _ Try.underlying3 rfl ?_) | (refine wpl_loadf (by rfl) 3 _ (by rfl) w.heap.size 1 (by rfl) _ _ P1 _ rfl _ Try.underlying3 rfl ?_) | (refine wpl_loadf (by rfl) 3 _ (by rfl) w.heap.size 2 (by rfl) _ _ P1 _ rfl _ Try.underlying3 rfl ?_) | (refine wpl_loadf (by rfl) 3 _ (by rfl) w.heap.size 3 (by rfl) _ _ P1 _ rfl _ Try.underlying3 rfl ?_))
              go_ret
              exact ⟨rfl, b1⟩
            | false =>
              cases h7 : decide (e < 0) with
              | true =>
                clear h
                go_enter Try.func3, Try.ntmps3
                go_wp2_with (first
                  | (refine wpl_box (by rfl) 23 _ (by rfl) _ (qdL a b d e) (by rfl) rfl ?_; intro w1 P1 s1 b1)
                  | (refine wpl_loadf (by rfl) 3 _ (by rfl) w.heap.size 0 (by rfl) _ _ P1 _ rfl _ Try.underlying3 rfl ?_) | (refine wpl_loadf (by rfl) 3 _ (by rfl) w.heap.size 1 (by rfl) _ _ P1 _ rfl _ Try.underlying3 rfl ?_) | (refine wpl_loadf (by rfl) 3 _ (by rfl) w.heap.size 2 (by rfl) _ _ P1 _ rfl _ Try.underlying3 rfl ?_) | (refine wpl_loadf (by rfl) 3 _ (by rfl) w.heap.size 3 (by rfl) _ _ P1 _ rfl _ Try.underlying3 rfl ?_))
                go_ret
                exact ⟨rfl, b1⟩
              | false =>
                cases h8 : decide (1099511627776 < e) with
                | true =>
                  clear h
                  go_enter Try.func3, Try.ntmps3
                  go_wp2_with (first
                    | (refine wpl_box (by rfl) 23 _ (by rfl) _ (qdL a b d e) (by rfl) rfl ?_; intro w1 P1 s1 b1)
                    | (refine wpl_loadf (by rfl) 3 _ (by rfl) w.heap.size 0 (by rfl) _ _ P1 _ rfl _ Try.underlying3 rfl ?_) | (refine wpl_loadf (by rfl) 3 _ (by rfl) w.heap.size 1 (by rfl) _ _ P1 _ rfl _ Try.underlying3 rfl ?_) | (refine wpl_loadf (by rfl) 3 _ (by rfl) w.heap.size 2 (by rfl) _ _ P1 _ rfl _ Try.underlying3 rfl ?_) | (refine wpl_loadf (by rfl) 3 _ (by rfl) w.heap.size 3 (by rfl) _ _ P1 _ rfl _ Try.underlying3 rfl ?_))
                  go_ret
                  exact ⟨rfl, b1⟩
                | false =>
                  cases h9 : decide (o < -35184372088832) with
                  | true =>
                    clear h
                    go_enter Try.func3, Try.ntmps3
                    go_wp2_with (first
                      | (refine wpl_box (by rfl) 23 _ (by rfl) _ (qdL a b d e) (by rfl) rfl ?_; intro w1 P1 s1 b1)
                      | (refine wpl_loadf (by rfl) 3 _ (by rfl) w.heap.size 0 (by rfl) _ _ P1 _ rfl _ Try.underlying3 rfl ?_) | (refine wpl_loadf (by rfl) 3 _ (by rfl) w.heap.size 1 (by rfl) _ _ P1 _ rfl _ Try.underlying3 rfl ?_) | (refine wpl_loadf (by rfl) 3 _ (by rfl) w.heap.size 2 (by rfl) _ _ P1 _ rfl _ Try.underlying3 rfl ?_) | (refine wpl_loadf (by rfl) 3 _ (by rfl) w.heap.size 3 (by rfl) _ _ P1 _ rfl _ Try.underlying3 rfl ?_))
                    go_ret
                    exact ⟨rfl, b1⟩
                  | false =>
                    cases h10 : decide (35184372088832 < o) with
                    | true =>
                      clear h
                      go_enter Try.func3, Try.ntmps3
                      go_wp2_with (first
                        | (refine wpl_box (by rfl) 23 _ (by rfl) _ (qdL a b d e) (by rfl) rfl ?_; intro w1 P1 s1 b1)
                        | (refine wpl_loadf (by rfl) 3 _ (by rfl) w.heap.size 0 (by rfl) _ _ P1 _ rfl _ Try.underlying3 rfl ?_) | (refine wpl_loadf (by rfl) 3 _ (by rfl) w.heap.size 1 (by rfl) _ _ P1 _ rfl _ Try.underlying3 rfl ?_) | (refine wpl_loadf (by rfl) 3 _ (by rfl) w.heap.size 2 (by rfl) _ _ P1 _ rfl _ Try.underlying3 rfl ?_) | (refine wpl_loadf (by rfl) 3 _ (by rfl) w.heap.size 3 (by rfl) _ _ P1 _ rfl _ Try.underlying3 rfl ?_))
                      go_ret
                      exact ⟨rfl, b1⟩
                    | false =>
                      cases h11 : (n == 0) with
                      | true =>
                        clear h
                        go_enter Try.func3, Try.ntmps3
                        go_wp2_with (first
                          | (refine wpl_box (by rfl) 23 _ (by rfl) _ (qdL a b d e) (by rfl) rfl ?_; intro w1 P1 s1 b1)
                          | (refine wpl_loadf (by rfl) 3 _ (by rfl) w.heap.size 0 (by rfl) _ _ P1 _ rfl _ Try.underlying3 rfl ?_) | (refine wpl_loadf (by rfl) 3 _ (by rfl) w.heap.size 1 (by rfl) _ _ P1 _ rfl _ Try.underlying3 rfl ?_) | (refine wpl_loadf (by rfl) 3 _ (by rfl) w.heap.size 2 (by rfl) _ _ P1 _ rfl _ Try.underlying3 rfl ?_) | (refine wpl_loadf (by rfl) 3 _ (by rfl) w.heap.size 3 (by rfl) _ _ P1 _ rfl _ Try.underlying3 rfl ?_))
                        go_ret
                        exact ⟨rfl, b1⟩
                      | false => exact absurd ⟨h1, h2, h3, h4, h5, h6, h7, h8, h9, h10, h11⟩ h
theorem ins_back {t now : Int} (ht : rdB t = true) (hn : rdB now = true) : insB (ofN (3900000000000000000 + t)) now = true ∧ insV (ofN (3900000000000000000 + t)) now = t := by
  have h1 := rdB_iff.1 ht
  have h2 := rdB_iff.1 hn
  have e : insT (ofN (3900000000000000000 + t)) now = t := by
    unfold insT
    rw [back_V (by omega) (by omega)]
    omega
  have hB : insB (ofN (3900000000000000000 + t)) now = true := by unfold insB; rw [e]; exact ht
  exact ⟨hB, by unfold insV; rw [hB, e]; rfl⟩
end Go.Proofs.Ytdnmjeapihjabaa
