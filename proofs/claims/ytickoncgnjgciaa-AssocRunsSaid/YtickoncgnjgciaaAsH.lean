/- Associations: what the reference's heard and Receive compute. -/
import Derived.Test.YtickoncgnjgciaaAsG
namespace Go.Proofs.Ytickoncgnjgciaa
open Go.RowKit
set_option linter.unusedSimpArgs false
set_option linter.unusedVariables false
set_option maxRecDepth 100000 in
set_option maxHeartbeats 8000000 in
theorem heard_any (g : Nat) (ver t1 nc : Int) (sn pd : Bool) (lx c0 c1 c2 c3 c4 c5 c6 c7 now l v m st po pr rd rp id ref org rec xmt : Int) (w : World) (H : Blk w g 59 (raL ver sn pd t1 nc lx c0 c1 c2 c3 c4 c5 c6 c7)) (hid : 0 ≤ id ∧ id ≤ 4294967295) (hn : rdB now = true) :
    Calls Try.prog 30 #[.pointer (some ⟨g, 0, none⟩), ntp l v m st po pr rd rp id ref org rec xmt, .int .i64 now] w fun e w' => e = .returned (.agg (acH st l id rec xmt t1 now).toArray) ∧ Below w.heap.size w w' := by
  have hC := fun W => rkiss_any l v m st po pr rd rp id ref org rec xmt W hid
  have hY := fun W => rsynced_any l v m st po pr rd rp id ref org rec xmt W
  have hR := fun W => rinstant_any rec now W hn
  have hX := fun W => rinstant_any xmt now W hn
  have hlt := H.lt
  rcases ac_cases st l id rec xmt now with ⟨h1, h⟩ | ⟨h1, h2, h⟩ | ⟨h1, h2, h3, h⟩ | ⟨h1, h2, h3, h4, h⟩ | ⟨h1, h2, h3, h4, h5, h⟩ | ⟨h1, h2, h3, h4, h5, h⟩
  · rw [acH, h]
    simp only [h1] at hC
    clear h h1 hY hR hX
    generalize ksS st id = c at hC ⊢
    go_enter Try.func30, Try.ntmps30
    go_wp2_with (first
      | ((refine wpl_box (by rfl) 31 _ (by rfl) _ ([.int .i64 l, .int .i64 v, .int .i64 m, .int .i64 st, .int .i64 po, .int .i64 pr, .int .u32 rd, .int .u32 rp, .int .u32 id, .int .u64 ref, .int .u64 org, .int .u64 rec, .int .u64 xmt]) (by rfl) rfl ?_; intro w1 P1 s1 b1); (have H1 := H.below b1 hlt))
      | ((refine wpl_alloc (by rfl) 40 (by rfl) (.agg (zH).toArray) (zH) zeroHeard rfl ?_; intro w4 J4 s4 b4); (have H4 := H1.below b4 (by omega)); (have P4 := P1.below b4 (by omega)))
      | (refine wpl_load (by rfl) 31 _ (by rfl) w.heap.size (by rfl) 31 _ P4 _ Try.underlying31 rfl _ sizeNtp (by rfl) ?_)
      | (go_at_call 37; ((with_reducible refine (hC _).mono ?_); rintro e w5 ⟨rfl, b5⟩; (have H5 := H4.below b5 (by omega)); (have P5 := P4.below b5 (by omega)); (have J5 := J4.below b5 (by omega)); (have z5 := b5.size)))
      | (refine wpl_load (by rfl) 31 _ (by rfl) w.heap.size (by rfl) 31 _ P5 _ Try.underlying31 rfl _ sizeNtp (by rfl) ?_)
      | (go_at_call 38; ((with_reducible refine (hY _).mono ?_); rintro e w6 ⟨rfl, b6⟩; (have H6 := H5.below b6 (by omega)); (have P6 := P5.below b6 (by omega)); (have J6 := J5.below b6 (by omega)); (have z6 := b6.size)))
      | (refine wpl_loadf (by rfl) 28 _ (by rfl) w.heap.size 11 (by rfl) _ _ P6 _ rfl _ Try.underlying28 rfl ?_)
      | (refine wpl_store (by rfl) 40 _ _ (by rfl) w1.heap.size (by rfl) _ (by rfl) _ rfl 40 _ J5 (by rfl) _ sizeHeard (by rfl) (by simp [Value.oneCell']) ?_; intro w9 J9 s9 g9))
    obtain ⟨k0, k1, k2, k3, k4, k5⟩ := cells6 J9
    refine bodyPost_ret (v := .agg (hdL 4 c 0 0 0 0).toArray) (by simp [results, Try.results30, go_sem, k0, k1, k2, k3, k4, k5]) rfl ?_
    exact ⟨rfl, ((b1.trans (b4.mono (by omega))).trans (b5.mono (by omega))).trans (g9.below (by omega) (by omega))⟩
  · rw [acH, h, ksS_no h1]
    simp only [h1, ksS_no h1] at hC
    simp only [h2] at hY
    clear h h1 h2 hR hX
    go_enter Try.func30, Try.ntmps30
    go_wp2_with (first
      | ((refine wpl_box (by rfl) 31 _ (by rfl) _ ([.int .i64 l, .int .i64 v, .int .i64 m, .int .i64 st, .int .i64 po, .int .i64 pr, .int .u32 rd, .int .u32 rp, .int .u32 id, .int .u64 ref, .int .u64 org, .int .u64 rec, .int .u64 xmt]) (by rfl) rfl ?_; intro w1 P1 s1 b1); (have H1 := H.below b1 hlt))
      | ((refine wpl_alloc (by rfl) 40 (by rfl) (.agg (zH).toArray) (zH) zeroHeard rfl ?_; intro w4 J4 s4 b4); (have H4 := H1.below b4 (by omega)); (have P4 := P1.below b4 (by omega)))
      | (refine wpl_load (by rfl) 31 _ (by rfl) w.heap.size (by rfl) 31 _ P4 _ Try.underlying31 rfl _ sizeNtp (by rfl) ?_)
      | (go_at_call 37; ((with_reducible refine (hC _).mono ?_); rintro e w5 ⟨rfl, b5⟩; (have H5 := H4.below b5 (by omega)); (have P5 := P4.below b5 (by omega)); (have J5 := J4.below b5 (by omega)); (have z5 := b5.size)))
      | (refine wpl_load (by rfl) 31 _ (by rfl) w.heap.size (by rfl) 31 _ P5 _ Try.underlying31 rfl _ sizeNtp (by rfl) ?_)
      | (go_at_call 38; ((with_reducible refine (hY _).mono ?_); rintro e w6 ⟨rfl, b6⟩; (have H6 := H5.below b6 (by omega)); (have P6 := P5.below b6 (by omega)); (have J6 := J5.below b6 (by omega)); (have z6 := b6.size)))
      | (refine wpl_loadf (by rfl) 28 _ (by rfl) w.heap.size 11 (by rfl) _ _ P6 _ rfl _ Try.underlying28 rfl ?_)
      | (refine wpl_store (by rfl) 40 _ _ (by rfl) w1.heap.size (by rfl) _ (by rfl) _ rfl 40 _ J6 (by rfl) _ sizeHeard (by rfl) (by simp [Value.oneCell']) ?_; intro w9 J9 s9 g9))
    obtain ⟨k0, k1, k2, k3, k4, k5⟩ := cells6 J9
    refine bodyPost_ret (v := .agg (hdL 5 ⟨#[]⟩ 0 0 0 0).toArray) (by simp [results, Try.results30, go_sem, k0, k1, k2, k3, k4, k5]) rfl ?_
    exact ⟨rfl, (((b1.trans (b4.mono (by omega))).trans (b5.mono (by omega))).trans (b6.mono (by omega))).trans (g9.below (by omega) (by omega))⟩
  · rw [acH, h, ksS_no h1]
    simp only [h1, ksS_no h1] at hC
    simp only [h2] at hY
    simp only [h3] at hR
    clear h h1 h2 h3
    go_enter Try.func30, Try.ntmps30
    go_wp2_with (first
      | ((refine wpl_box (by rfl) 31 _ (by rfl) _ ([.int .i64 l, .int .i64 v, .int .i64 m, .int .i64 st, .int .i64 po, .int .i64 pr, .int .u32 rd, .int .u32 rp, .int .u32 id, .int .u64 ref, .int .u64 org, .int .u64 rec, .int .u64 xmt]) (by rfl) rfl ?_; intro w1 P1 s1 b1); (have H1 := H.below b1 hlt))
      | ((refine wpl_alloc (by rfl) 40 (by rfl) (.agg (zH).toArray) (zH) zeroHeard rfl ?_; intro w4 J4 s4 b4); (have H4 := H1.below b4 (by omega)); (have P4 := P1.below b4 (by omega)))
      | (refine wpl_load (by rfl) 31 _ (by rfl) w.heap.size (by rfl) 31 _ P4 _ Try.underlying31 rfl _ sizeNtp (by rfl) ?_)
      | (go_at_call 37; ((with_reducible refine (hC _).mono ?_); rintro e w5 ⟨rfl, b5⟩; (have H5 := H4.below b5 (by omega)); (have P5 := P4.below b5 (by omega)); (have J5 := J4.below b5 (by omega)); (have z5 := b5.size)))
      | (refine wpl_load (by rfl) 31 _ (by rfl) w.heap.size (by rfl) 31 _ P5 _ Try.underlying31 rfl _ sizeNtp (by rfl) ?_)
      | (go_at_call 38; ((with_reducible refine (hY _).mono ?_); rintro e w6 ⟨rfl, b6⟩; (have H6 := H5.below b6 (by omega)); (have P6 := P5.below b6 (by omega)); (have J6 := J5.below b6 (by omega)); (have z6 := b6.size)))
      | (refine wpl_loadf (by rfl) 28 _ (by rfl) w.heap.size 11 (by rfl) _ _ P6 _ rfl _ Try.underlying28 rfl ?_)
      | (go_at_call 39; ((with_reducible refine (hR _).mono ?_); rintro e w7 ⟨rfl, b7⟩; (have H7 := H6.below b7 (by omega)); (have P7 := P6.below b7 (by omega)); (have J7 := J6.below b7 (by omega)); (have z7 := b7.size)))
      | (refine wpl_loadf (by rfl) 28 _ (by rfl) w.heap.size 12 (by rfl) _ _ P7 _ rfl _ Try.underlying28 rfl ?_)
      | (go_at_call 39; ((with_reducible refine (hX _).mono ?_); rintro e w8 ⟨rfl, b8⟩; (have H8 := H7.below b8 (by omega)); (have J8 := J7.below b8 (by omega)); (have z8 := b8.size)))
      | (refine wpl_loadf (by rfl) 3 _ (by rfl) g 3 (by rfl) _ _ H8 _ rfl _ Try.underlying3 rfl ?_)
      | (refine wpl_store (by rfl) 40 _ _ (by rfl) w1.heap.size (by rfl) _ (by rfl) _ rfl 40 _ J8 (by rfl) _ sizeHeard (by rfl) (by simp [Value.oneCell']) ?_; intro w9 J9 s9 g9))
    obtain ⟨k0, k1, k2, k3, k4, k5⟩ := cells6 J9
    refine bodyPost_ret (v := .agg (hdL 6 ⟨#[]⟩ 0 0 0 0).toArray) (by simp [results, Try.results30, go_sem, k0, k1, k2, k3, k4, k5]) rfl ?_
    exact ⟨rfl, (((((b1.trans (b4.mono (by omega))).trans (b5.mono (by omega))).trans (b6.mono (by omega))).trans (b7.mono (by omega))).trans (b8.mono (by omega))).trans (g9.below (by omega) (by omega))⟩
  · rw [acH, h, ksS_no h1]
    simp only [h1, ksS_no h1] at hC
    simp only [h2] at hY
    simp only [h3] at hR
    simp only [h4] at hX
    clear h h1 h2 h3 h4
    go_enter Try.func30, Try.ntmps30
    go_wp2_with (first
      | ((refine wpl_box (by rfl) 31 _ (by rfl) _ ([.int .i64 l, .int .i64 v, .int .i64 m, .int .i64 st, .int .i64 po, .int .i64 pr, .int .u32 rd, .int .u32 rp, .int .u32 id, .int .u64 ref, .int .u64 org, .int .u64 rec, .int .u64 xmt]) (by rfl) rfl ?_; intro w1 P1 s1 b1); (have H1 := H.below b1 hlt))
      | ((refine wpl_alloc (by rfl) 40 (by rfl) (.agg (zH).toArray) (zH) zeroHeard rfl ?_; intro w4 J4 s4 b4); (have H4 := H1.below b4 (by omega)); (have P4 := P1.below b4 (by omega)))
      | (refine wpl_load (by rfl) 31 _ (by rfl) w.heap.size (by rfl) 31 _ P4 _ Try.underlying31 rfl _ sizeNtp (by rfl) ?_)
      | (go_at_call 37; ((with_reducible refine (hC _).mono ?_); rintro e w5 ⟨rfl, b5⟩; (have H5 := H4.below b5 (by omega)); (have P5 := P4.below b5 (by omega)); (have J5 := J4.below b5 (by omega)); (have z5 := b5.size)))
      | (refine wpl_load (by rfl) 31 _ (by rfl) w.heap.size (by rfl) 31 _ P5 _ Try.underlying31 rfl _ sizeNtp (by rfl) ?_)
      | (go_at_call 38; ((with_reducible refine (hY _).mono ?_); rintro e w6 ⟨rfl, b6⟩; (have H6 := H5.below b6 (by omega)); (have P6 := P5.below b6 (by omega)); (have J6 := J5.below b6 (by omega)); (have z6 := b6.size)))
      | (refine wpl_loadf (by rfl) 28 _ (by rfl) w.heap.size 11 (by rfl) _ _ P6 _ rfl _ Try.underlying28 rfl ?_)
      | (go_at_call 39; ((with_reducible refine (hR _).mono ?_); rintro e w7 ⟨rfl, b7⟩; (have H7 := H6.below b7 (by omega)); (have P7 := P6.below b7 (by omega)); (have J7 := J6.below b7 (by omega)); (have z7 := b7.size)))
      | (refine wpl_loadf (by rfl) 28 _ (by rfl) w.heap.size 12 (by rfl) _ _ P7 _ rfl _ Try.underlying28 rfl ?_)
      | (go_at_call 39; ((with_reducible refine (hX _).mono ?_); rintro e w8 ⟨rfl, b8⟩; (have H8 := H7.below b8 (by omega)); (have J8 := J7.below b8 (by omega)); (have z8 := b8.size)))
      | (refine wpl_loadf (by rfl) 3 _ (by rfl) g 3 (by rfl) _ _ H8 _ rfl _ Try.underlying3 rfl ?_)
      | (refine wpl_store (by rfl) 40 _ _ (by rfl) w1.heap.size (by rfl) _ (by rfl) _ rfl 40 _ J8 (by rfl) _ sizeHeard (by rfl) (by simp [Value.oneCell']) ?_; intro w9 J9 s9 g9))
    obtain ⟨k0, k1, k2, k3, k4, k5⟩ := cells6 J9
    refine bodyPost_ret (v := .agg (hdL 6 ⟨#[]⟩ 0 0 0 0).toArray) (by simp [results, Try.results30, go_sem, k0, k1, k2, k3, k4, k5]) rfl ?_
    exact ⟨rfl, (((((b1.trans (b4.mono (by omega))).trans (b5.mono (by omega))).trans (b6.mono (by omega))).trans (b7.mono (by omega))).trans (b8.mono (by omega))).trans (g9.below (by omega) (by omega))⟩
  · rw [acH, h, ksS_no h1]
    simp only [h1, ksS_no h1] at hC
    simp only [h2] at hY
    simp only [h3] at hR
    simp only [h4] at hX
    clear h h1 h2 h3 h4
    go_enter Try.func30, Try.ntmps30
    go_wp2_with (first
      | ((refine wpl_box (by rfl) 31 _ (by rfl) _ ([.int .i64 l, .int .i64 v, .int .i64 m, .int .i64 st, .int .i64 po, .int .i64 pr, .int .u32 rd, .int .u32 rp, .int .u32 id, .int .u64 ref, .int .u64 org, .int .u64 rec, .int .u64 xmt]) (by rfl) rfl ?_; intro w1 P1 s1 b1); (have H1 := H.below b1 hlt))
      | ((refine wpl_alloc (by rfl) 40 (by rfl) (.agg (zH).toArray) (zH) zeroHeard rfl ?_; intro w4 J4 s4 b4); (have H4 := H1.below b4 (by omega)); (have P4 := P1.below b4 (by omega)))
      | (refine wpl_load (by rfl) 31 _ (by rfl) w.heap.size (by rfl) 31 _ P4 _ Try.underlying31 rfl _ sizeNtp (by rfl) ?_)
      | (go_at_call 37; ((with_reducible refine (hC _).mono ?_); rintro e w5 ⟨rfl, b5⟩; (have H5 := H4.below b5 (by omega)); (have P5 := P4.below b5 (by omega)); (have J5 := J4.below b5 (by omega)); (have z5 := b5.size)))
      | (refine wpl_load (by rfl) 31 _ (by rfl) w.heap.size (by rfl) 31 _ P5 _ Try.underlying31 rfl _ sizeNtp (by rfl) ?_)
      | (go_at_call 38; ((with_reducible refine (hY _).mono ?_); rintro e w6 ⟨rfl, b6⟩; (have H6 := H5.below b6 (by omega)); (have P6 := P5.below b6 (by omega)); (have J6 := J5.below b6 (by omega)); (have z6 := b6.size)))
      | (refine wpl_loadf (by rfl) 28 _ (by rfl) w.heap.size 11 (by rfl) _ _ P6 _ rfl _ Try.underlying28 rfl ?_)
      | (go_at_call 39; ((with_reducible refine (hR _).mono ?_); rintro e w7 ⟨rfl, b7⟩; (have H7 := H6.below b7 (by omega)); (have P7 := P6.below b7 (by omega)); (have J7 := J6.below b7 (by omega)); (have z7 := b7.size)))
      | (refine wpl_loadf (by rfl) 28 _ (by rfl) w.heap.size 12 (by rfl) _ _ P7 _ rfl _ Try.underlying28 rfl ?_)
      | (go_at_call 39; ((with_reducible refine (hX _).mono ?_); rintro e w8 ⟨rfl, b8⟩; (have H8 := H7.below b8 (by omega)); (have J8 := J7.below b8 (by omega)); (have z8 := b8.size)))
      | (refine wpl_loadf (by rfl) 3 _ (by rfl) g 3 (by rfl) _ _ H8 _ rfl _ Try.underlying3 rfl ?_)
      | (refine wpl_store (by rfl) 40 _ _ (by rfl) w1.heap.size (by rfl) _ (by rfl) _ rfl 40 _ J8 (by rfl) _ sizeHeard (by rfl) (by simp [Value.oneCell']) ?_; intro w9 J9 s9 g9))
    obtain ⟨k0, k1, k2, k3, k4, k5⟩ := cells6 J9
    refine bodyPost_ret (v := .agg (hdL 6 ⟨#[]⟩ 0 0 0 0).toArray) (by simp [results, Try.results30, go_sem, k0, k1, k2, k3, k4, k5]) rfl ?_
    exact ⟨rfl, (((((b1.trans (b4.mono (by omega))).trans (b5.mono (by omega))).trans (b6.mono (by omega))).trans (b7.mono (by omega))).trans (b8.mono (by omega))).trans (g9.below (by omega) (by omega))⟩
  · rw [acH, h, ksS_no h1]
    simp only [h1, ksS_no h1] at hC
    simp only [h2] at hY
    simp only [h3] at hR
    simp only [h4] at hX
    clear h h1 h2 h3 h4
    go_enter Try.func30, Try.ntmps30
    go_wp2_with (first
      | ((refine wpl_box (by rfl) 31 _ (by rfl) _ ([.int .i64 l, .int .i64 v, .int .i64 m, .int .i64 st, .int .i64 po, .int .i64 pr, .int .u32 rd, .int .u32 rp, .int .u32 id, .int .u64 ref, .int .u64 org, .int .u64 rec, .int .u64 xmt]) (by rfl) rfl ?_; intro w1 P1 s1 b1); (have H1 := H.below b1 hlt))
      | ((refine wpl_alloc (by rfl) 40 (by rfl) (.agg (zH).toArray) (zH) zeroHeard rfl ?_; intro w4 J4 s4 b4); (have H4 := H1.below b4 (by omega)); (have P4 := P1.below b4 (by omega)))
      | (refine wpl_load (by rfl) 31 _ (by rfl) w.heap.size (by rfl) 31 _ P4 _ Try.underlying31 rfl _ sizeNtp (by rfl) ?_)
      | (go_at_call 37; ((with_reducible refine (hC _).mono ?_); rintro e w5 ⟨rfl, b5⟩; (have H5 := H4.below b5 (by omega)); (have P5 := P4.below b5 (by omega)); (have J5 := J4.below b5 (by omega)); (have z5 := b5.size)))
      | (refine wpl_load (by rfl) 31 _ (by rfl) w.heap.size (by rfl) 31 _ P5 _ Try.underlying31 rfl _ sizeNtp (by rfl) ?_)
      | (go_at_call 38; ((with_reducible refine (hY _).mono ?_); rintro e w6 ⟨rfl, b6⟩; (have H6 := H5.below b6 (by omega)); (have P6 := P5.below b6 (by omega)); (have J6 := J5.below b6 (by omega)); (have z6 := b6.size)))
      | (refine wpl_loadf (by rfl) 28 _ (by rfl) w.heap.size 11 (by rfl) _ _ P6 _ rfl _ Try.underlying28 rfl ?_)
      | (go_at_call 39; ((with_reducible refine (hR _).mono ?_); rintro e w7 ⟨rfl, b7⟩; (have H7 := H6.below b7 (by omega)); (have P7 := P6.below b7 (by omega)); (have J7 := J6.below b7 (by omega)); (have z7 := b7.size)))
      | (refine wpl_loadf (by rfl) 28 _ (by rfl) w.heap.size 12 (by rfl) _ _ P7 _ rfl _ Try.underlying28 rfl ?_)
      | (go_at_call 39; ((with_reducible refine (hX _).mono ?_); rintro e w8 ⟨rfl, b8⟩; (have H8 := H7.below b8 (by omega)); (have J8 := J7.below b8 (by omega)); (have z8 := b8.size)))
      | (refine wpl_loadf (by rfl) 3 _ (by rfl) g 3 (by rfl) _ _ H8 _ rfl _ Try.underlying3 rfl ?_)
      | (refine wpl_store (by rfl) 40 _ _ (by rfl) w1.heap.size (by rfl) _ (by rfl) _ rfl 40 _ J8 (by rfl) _ sizeHeard (by rfl) (by simp [Value.oneCell']) ?_; intro w9 J9 s9 g9))
    obtain ⟨k0, k1, k2, k3, k4, k5⟩ := cells6 J9
    refine bodyPost_ret (v := .agg (hdL 7 ⟨#[]⟩ t1 (insV rec now) (insV xmt now) now).toArray) (by simp [results, Try.results30, go_sem, k0, k1, k2, k3, k4, k5]) rfl ?_
    exact ⟨rfl, (((((b1.trans (b4.mono (by omega))).trans (b5.mono (by omega))).trans (b6.mono (by omega))).trans (b7.mono (by omega))).trans (b8.mono (by omega))).trans (g9.below (by omega) (by omega))⟩
/-! ### Receive -/
/-- a reply that is not bad, in the reference's words -/
theorem rgood {K m now nc t1 : Int} {sn : Bool} (hI : nc = 0 → t1 = 0) (hsn : sn = !decide (nc = 0)) (hb : badB K m now nc t1 = false) : (K != 0) = false ∧ (m != 4) = false ∧ rdB now = true ∧ (sn = false ∨ (sn = true ∧ decide (now < t1) = false)) := by
  obtain ⟨h1, h2, h3, h4⟩ := good_parts hI hb
  refine ⟨by simpa using h1, by simpa using h2, h3, ?_⟩
  rcases h4 with ⟨h4, h5⟩ | ⟨h4, h5, h6⟩
  · exact .inl (by rw [hsn]; simpa using h4)
  · exact .inr ⟨by rw [hsn]; simpa using h4, h6⟩
set_option maxRecDepth 100000 in
set_option maxHeartbeats 8000000 in
theorem rrec_bad (g : Nat) (ver t1 nc : Int) (sn pd : Bool) (lx c0 c1 c2 c3 c4 c5 c6 c7 now l v m st po pr rd rp id ref org rec xmt : Int) (w : World) (H : Blk w g 59 (raL ver sn pd t1 nc lx c0 c1 c2 c3 c4 c5 c6 c7)) (hc : CB c0) (hI : nc = 0 → t1 = 0) (hsn : sn = !decide (nc = 0)) (hb : badB (nchk l v m st po pr) m now nc t1 = true) :
    Calls Try.prog 15 #[.pointer (some ⟨g, 0, none⟩), ntp l v m st po pr rd rp id ref org rec xmt, .int .i64 now] w fun e w' => e = .returned (.agg (hdL 0 ⟨#[]⟩ 0 0 0 0).toArray) ∧ Blk w' g 59 (raL ver sn pd t1 nc lx (c0 + 1) c1 c2 c3 c4 c5 c6 c7) ∧ But g w w' := by
  have hr := fun W => rin_any now W
  have hC := fun W => rnchk_any l v m st po pr rd rp id ref org rec xmt W
  have hlt := H.lt
  have hcw : IntKind.i64.wrap (c0 + 1) = c0 + 1 := by rw [IntKind.wrap_i64]; omega
  obtain ⟨K, hK⟩ : ∃ K, K = nchk l v m st po pr := ⟨_, rfl⟩
  rw [← hK] at hb hC
  clear hK
  rcases bad_cases K m now nc t1 with ⟨h1, h⟩ | ⟨h1, h2, h⟩ | ⟨h1, h2, h3, h⟩ | ⟨h1, h2, h3, h4, h⟩ | ⟨h1, h2, h3, h4, h5, h⟩ | ⟨h1, h2, h3, h4, h5, h⟩
  · have h1' : (K != 0) = true := by simpa using h1
    clear h hb h1 hI hsn
    go_enter Try.func15, Try.ntmps15
    go_wp2_with (first
      | (refine wpl_alloc (by rfl) 40 (by rfl) (.agg (zH).toArray) (zH) zeroHeard rfl ?_; intro w3 L3 s3 b3; (have H3 := H2.below b3 (by omega)); (have J3 := J2.below b3 (by omega)); (have P3 := P2.below b3 (by omega)))
      | ((refine wpl_box (by rfl) 31 _ (by rfl) _ ([.int .i64 l, .int .i64 v, .int .i64 m, .int .i64 st, .int .i64 po, .int .i64 pr, .int .u32 rd, .int .u32 rp, .int .u32 id, .int .u64 ref, .int .u64 org, .int .u64 rec, .int .u64 xmt]) (by rfl) rfl ?_; intro w1 P1 s1 b1); (have H1 := H.below b1 hlt))
      | ((refine wpl_alloc (by rfl) 40 (by rfl) (.agg (zH).toArray) (zH) zeroHeard rfl ?_; intro w2 J2 s2 b2); (have H2 := H1.below b2 (by omega)); (have P2 := P1.below b2 (by omega)))
      | ((refine wpl_store (by rfl) 40 _ _ (by rfl) w2.heap.size (by rfl) _ (by rfl) _ rfl 40 _ L3 (by rfl) _ sizeHeard (by rfl) (by simp [Value.oneCell']) ?_; intro w4 L4 s4 g4); (have H4 := H3.but g4 (by omega)); (have J4 := J3.but g4 (by omega)); (have P4 := P3.but g4 (by omega)))
      | (refine wpl_load (by rfl) 31 _ (by rfl) w.heap.size (by rfl) 31 _ P4 _ Try.underlying31 rfl _ sizeNtp (by rfl) ?_)
      | (go_at_call 29; ((with_reducible refine (hC _).mono ?_); rintro e w5 ⟨rfl, b5⟩; (have H5 := H4.below b5 (by omega)); (have P5 := P4.below b5 (by omega)); (have J5 := J4.below b5 (by omega)); (have L5 := L4.below b5 (by omega)); (have z5 := b5.size)))
      | (go_at_call 26; ((with_reducible refine (hr _).mono ?_); rintro e w1 ⟨rfl, rfl⟩))
      | (refine wpl_loadf (by rfl) 3 _ (by rfl) w.heap.size 2 (by rfl) _ _ P5 _ rfl _ Try.underlying3 rfl ?_) | (refine wpl_loadf (by rfl) 4 _ (by rfl) g 1 (by rfl) _ _ H5 _ rfl _ Try.underlying4 rfl ?_) | (refine wpl_loadf (by rfl) 3 _ (by rfl) g 3 (by rfl) _ _ H5 _ rfl _ Try.underlying3 rfl ?_) | (refine wpl_loadf (by rfl) 4 _ (by rfl) g 2 (by rfl) _ _ H5 _ rfl _ Try.underlying4 rfl ?_)
      | ((refine wpl_storeg (by rfl) 3 _ _ (by rfl) w2.heap.size 0 (by rfl) (.int .i64 0) (by rfl) (by rfl) (by simp [Value.oneCell']) _ _ (hdL 0 ⟨#[]⟩ 0 0 0 0) L5 (by simp) sizeI64 (by rfl) ?_; intro w6 L6 s6 g6); (have H6 := H5.but g6 (by omega)); (have J6 := J5.but g6 (by omega))))
    have G5 : But g w w5 := ((((But.of_below b1 (Nat.le_refl _)).then b2 (by omega)).then b3 (by omega)).new g4 (by omega)).then b5 (by omega)
    have G6 : But g w w6 := G5.new g6 (by omega)
    clear P1 J2 H1 H2 P2 H3 J3 L3 P3 H4 J4 P4 L4 b1 b2 b3 g4 b5 H5 P5 J5 L5 G5 g6
    have q1 := L6.cell (i := 0) rfl
    have q2 := H6.cell (i := 6) rfl
    have q3 := H6.frozen
    have B7 : But g w (w6.setCell ⟨g, 6, none⟩ (.int .i64 (c0 + 1))).drew := But.trans G6 ⟨rfl, rfl, rfl, by simp [World.setCell, World.drew], fun k _ hk => Below.heap_setCell _ _ _ _ (fun e => hk (by rw [e]))⟩
    have H7 : Blk (w6.setCell ⟨g, 6, none⟩ (.int .i64 (c0 + 1))).drew g 59 (raL ver sn pd t1 nc lx (c0 + 1) c1 c2 c3 c4 c5 c6 c7) := (H6.set 6 (.int .i64 (c0 + 1))).drew
    have L7 : Blk (w6.setCell ⟨g, 6, none⟩ (.int .i64 (c0 + 1))).drew w2.heap.size 40 (hdL 0 ⟨#[]⟩ 0 0 0 0) := (L6.but (but_setCell w6 g 6 _) (by omega)).drew
    have J7 : Blk (w6.setCell ⟨g, 6, none⟩ (.int .i64 (c0 + 1))).drew w1.heap.size 40 zH := (J6.but (but_setCell w6 g 6 _) (by omega)).drew
    clear H6 L6 J6 G6
    go_region
    all_goals
      generalize (w6.setCell ⟨g, 6, none⟩ (.int .i64 (c0 + 1))).drew = w7 at H7 L7 J7 B7 ⊢
      clear q1 q2 q3
      go_wp2_with (first
        | (refine wpl_load (by rfl) 40 _ (by rfl) w2.heap.size (by rfl) 40 _ L7 _ Try.underlying40 rfl _ sizeHeard (by rfl) ?_)
        | (refine wpl_store (by rfl) 40 _ _ (by rfl) w1.heap.size (by rfl) _ (by rfl) _ rfl 40 _ J7 (by rfl) _ sizeHeard (by rfl) (by simp [Value.oneCell']) ?_; intro w8 J8 s8 g8))
      obtain ⟨k0, k1, k2, k3, k4, k5⟩ := cells6 J8
      refine bodyPost_ret (v := .agg (hdL 0 ⟨#[]⟩ 0 0 0 0).toArray) (by simp [results, Try.results15, go_sem, k0, k1, k2, k3, k4, k5]) rfl ?_
      exact ⟨rfl, H7.but g8 (by omega), B7.new g8 (by omega)⟩
  · have h1' : (K != 0) = false := by simpa using h1
    have h2' : (m != 4) = true := by simpa using h2
    clear h hb h1 h2 hI hsn
    go_enter Try.func15, Try.ntmps15
    go_wp2_with (first
      | (refine wpl_alloc (by rfl) 40 (by rfl) (.agg (zH).toArray) (zH) zeroHeard rfl ?_; intro w3 L3 s3 b3; (have H3 := H2.below b3 (by omega)); (have J3 := J2.below b3 (by omega)); (have P3 := P2.below b3 (by omega)))
      | ((refine wpl_box (by rfl) 31 _ (by rfl) _ ([.int .i64 l, .int .i64 v, .int .i64 m, .int .i64 st, .int .i64 po, .int .i64 pr, .int .u32 rd, .int .u32 rp, .int .u32 id, .int .u64 ref, .int .u64 org, .int .u64 rec, .int .u64 xmt]) (by rfl) rfl ?_; intro w1 P1 s1 b1); (have H1 := H.below b1 hlt))
      | ((refine wpl_alloc (by rfl) 40 (by rfl) (.agg (zH).toArray) (zH) zeroHeard rfl ?_; intro w2 J2 s2 b2); (have H2 := H1.below b2 (by omega)); (have P2 := P1.below b2 (by omega)))
      | ((refine wpl_store (by rfl) 40 _ _ (by rfl) w2.heap.size (by rfl) _ (by rfl) _ rfl 40 _ L3 (by rfl) _ sizeHeard (by rfl) (by simp [Value.oneCell']) ?_; intro w4 L4 s4 g4); (have H4 := H3.but g4 (by omega)); (have J4 := J3.but g4 (by omega)); (have P4 := P3.but g4 (by omega)))
      | (refine wpl_load (by rfl) 31 _ (by rfl) w.heap.size (by rfl) 31 _ P4 _ Try.underlying31 rfl _ sizeNtp (by rfl) ?_)
      | (go_at_call 29; ((with_reducible refine (hC _).mono ?_); rintro e w5 ⟨rfl, b5⟩; (have H5 := H4.below b5 (by omega)); (have P5 := P4.below b5 (by omega)); (have J5 := J4.below b5 (by omega)); (have L5 := L4.below b5 (by omega)); (have z5 := b5.size)))
      | (go_at_call 26; ((with_reducible refine (hr _).mono ?_); rintro e w1 ⟨rfl, rfl⟩))
      | (refine wpl_loadf (by rfl) 3 _ (by rfl) w.heap.size 2 (by rfl) _ _ P5 _ rfl _ Try.underlying3 rfl ?_) | (refine wpl_loadf (by rfl) 4 _ (by rfl) g 1 (by rfl) _ _ H5 _ rfl _ Try.underlying4 rfl ?_) | (refine wpl_loadf (by rfl) 3 _ (by rfl) g 3 (by rfl) _ _ H5 _ rfl _ Try.underlying3 rfl ?_) | (refine wpl_loadf (by rfl) 4 _ (by rfl) g 2 (by rfl) _ _ H5 _ rfl _ Try.underlying4 rfl ?_)
      | ((refine wpl_storeg (by rfl) 3 _ _ (by rfl) w2.heap.size 0 (by rfl) (.int .i64 0) (by rfl) (by rfl) (by simp [Value.oneCell']) _ _ (hdL 0 ⟨#[]⟩ 0 0 0 0) L5 (by simp) sizeI64 (by rfl) ?_; intro w6 L6 s6 g6); (have H6 := H5.but g6 (by omega)); (have J6 := J5.but g6 (by omega))))
    have G5 : But g w w5 := ((((But.of_below b1 (Nat.le_refl _)).then b2 (by omega)).then b3 (by omega)).new g4 (by omega)).then b5 (by omega)
    have G6 : But g w w6 := G5.new g6 (by omega)
    clear P1 J2 H1 H2 P2 H3 J3 L3 P3 H4 J4 P4 L4 b1 b2 b3 g4 b5 H5 P5 J5 L5 G5 g6
    have q1 := L6.cell (i := 0) rfl
    have q2 := H6.cell (i := 6) rfl
    have q3 := H6.frozen
    have B7 : But g w (w6.setCell ⟨g, 6, none⟩ (.int .i64 (c0 + 1))).drew := But.trans G6 ⟨rfl, rfl, rfl, by simp [World.setCell, World.drew], fun k _ hk => Below.heap_setCell _ _ _ _ (fun e => hk (by rw [e]))⟩
    have H7 : Blk (w6.setCell ⟨g, 6, none⟩ (.int .i64 (c0 + 1))).drew g 59 (raL ver sn pd t1 nc lx (c0 + 1) c1 c2 c3 c4 c5 c6 c7) := (H6.set 6 (.int .i64 (c0 + 1))).drew
    have L7 : Blk (w6.setCell ⟨g, 6, none⟩ (.int .i64 (c0 + 1))).drew w2.heap.size 40 (hdL 0 ⟨#[]⟩ 0 0 0 0) := (L6.but (but_setCell w6 g 6 _) (by omega)).drew
    have J7 : Blk (w6.setCell ⟨g, 6, none⟩ (.int .i64 (c0 + 1))).drew w1.heap.size 40 zH := (J6.but (but_setCell w6 g 6 _) (by omega)).drew
    clear H6 L6 J6 G6
    go_region
    all_goals
      generalize (w6.setCell ⟨g, 6, none⟩ (.int .i64 (c0 + 1))).drew = w7 at H7 L7 J7 B7 ⊢
      clear q1 q2 q3
      go_wp2_with (first
        | (refine wpl_load (by rfl) 40 _ (by rfl) w2.heap.size (by rfl) 40 _ L7 _ Try.underlying40 rfl _ sizeHeard (by rfl) ?_)
        | (refine wpl_store (by rfl) 40 _ _ (by rfl) w1.heap.size (by rfl) _ (by rfl) _ rfl 40 _ J7 (by rfl) _ sizeHeard (by rfl) (by simp [Value.oneCell']) ?_; intro w8 J8 s8 g8))
      obtain ⟨k0, k1, k2, k3, k4, k5⟩ := cells6 J8
      refine bodyPost_ret (v := .agg (hdL 0 ⟨#[]⟩ 0 0 0 0).toArray) (by simp [results, Try.results15, go_sem, k0, k1, k2, k3, k4, k5]) rfl ?_
      exact ⟨rfl, H7.but g8 (by omega), B7.new g8 (by omega)⟩
  · have h1' : (K != 0) = false := by simpa using h1
    have h2' : (m != 4) = false := by simpa using h2
    simp only [h3] at hr
    clear h hb h1 h2 h3 hI hsn
    go_enter Try.func15, Try.ntmps15
    go_wp2_with (first
      | (refine wpl_alloc (by rfl) 40 (by rfl) (.agg (zH).toArray) (zH) zeroHeard rfl ?_; intro w3 L3 s3 b3; (have H3 := H2.below b3 (by omega)); (have J3 := J2.below b3 (by omega)); (have P3 := P2.below b3 (by omega)))
      | ((refine wpl_box (by rfl) 31 _ (by rfl) _ ([.int .i64 l, .int .i64 v, .int .i64 m, .int .i64 st, .int .i64 po, .int .i64 pr, .int .u32 rd, .int .u32 rp, .int .u32 id, .int .u64 ref, .int .u64 org, .int .u64 rec, .int .u64 xmt]) (by rfl) rfl ?_; intro w1 P1 s1 b1); (have H1 := H.below b1 hlt))
      | ((refine wpl_alloc (by rfl) 40 (by rfl) (.agg (zH).toArray) (zH) zeroHeard rfl ?_; intro w2 J2 s2 b2); (have H2 := H1.below b2 (by omega)); (have P2 := P1.below b2 (by omega)))
      | ((refine wpl_store (by rfl) 40 _ _ (by rfl) w2.heap.size (by rfl) _ (by rfl) _ rfl 40 _ L3 (by rfl) _ sizeHeard (by rfl) (by simp [Value.oneCell']) ?_; intro w4 L4 s4 g4); (have H4 := H3.but g4 (by omega)); (have J4 := J3.but g4 (by omega)); (have P4 := P3.but g4 (by omega)))
      | (refine wpl_load (by rfl) 31 _ (by rfl) w.heap.size (by rfl) 31 _ P4 _ Try.underlying31 rfl _ sizeNtp (by rfl) ?_)
      | (go_at_call 29; ((with_reducible refine (hC _).mono ?_); rintro e w5 ⟨rfl, b5⟩; (have H5 := H4.below b5 (by omega)); (have P5 := P4.below b5 (by omega)); (have J5 := J4.below b5 (by omega)); (have L5 := L4.below b5 (by omega)); (have z5 := b5.size)))
      | (go_at_call 26; ((with_reducible refine (hr _).mono ?_); rintro e w1 ⟨rfl, rfl⟩))
      | (refine wpl_loadf (by rfl) 3 _ (by rfl) w.heap.size 2 (by rfl) _ _ P5 _ rfl _ Try.underlying3 rfl ?_) | (refine wpl_loadf (by rfl) 4 _ (by rfl) g 1 (by rfl) _ _ H5 _ rfl _ Try.underlying4 rfl ?_) | (refine wpl_loadf (by rfl) 3 _ (by rfl) g 3 (by rfl) _ _ H5 _ rfl _ Try.underlying3 rfl ?_) | (refine wpl_loadf (by rfl) 4 _ (by rfl) g 2 (by rfl) _ _ H5 _ rfl _ Try.underlying4 rfl ?_)
      | ((refine wpl_storeg (by rfl) 3 _ _ (by rfl) w2.heap.size 0 (by rfl) (.int .i64 0) (by rfl) (by rfl) (by simp [Value.oneCell']) _ _ (hdL 0 ⟨#[]⟩ 0 0 0 0) L5 (by simp) sizeI64 (by rfl) ?_; intro w6 L6 s6 g6); (have H6 := H5.but g6 (by omega)); (have J6 := J5.but g6 (by omega))))
    have G5 : But g w w5 := ((((But.of_below b1 (Nat.le_refl _)).then b2 (by omega)).then b3 (by omega)).new g4 (by omega)).then b5 (by omega)
    have G6 : But g w w6 := G5.new g6 (by omega)
    clear P1 J2 H1 H2 P2 H3 J3 L3 P3 H4 J4 P4 L4 b1 b2 b3 g4 b5 H5 P5 J5 L5 G5 g6
    have q1 := L6.cell (i := 0) rfl
    have q2 := H6.cell (i := 6) rfl
    have q3 := H6.frozen
    have B7 : But g w (w6.setCell ⟨g, 6, none⟩ (.int .i64 (c0 + 1))).drew := But.trans G6 ⟨rfl, rfl, rfl, by simp [World.setCell, World.drew], fun k _ hk => Below.heap_setCell _ _ _ _ (fun e => hk (by rw [e]))⟩
    have H7 : Blk (w6.setCell ⟨g, 6, none⟩ (.int .i64 (c0 + 1))).drew g 59 (raL ver sn pd t1 nc lx (c0 + 1) c1 c2 c3 c4 c5 c6 c7) := (H6.set 6 (.int .i64 (c0 + 1))).drew
    have L7 : Blk (w6.setCell ⟨g, 6, none⟩ (.int .i64 (c0 + 1))).drew w2.heap.size 40 (hdL 0 ⟨#[]⟩ 0 0 0 0) := (L6.but (but_setCell w6 g 6 _) (by omega)).drew
    have J7 : Blk (w6.setCell ⟨g, 6, none⟩ (.int .i64 (c0 + 1))).drew w1.heap.size 40 zH := (J6.but (but_setCell w6 g 6 _) (by omega)).drew
    clear H6 L6 J6 G6
    go_region
    all_goals
      generalize (w6.setCell ⟨g, 6, none⟩ (.int .i64 (c0 + 1))).drew = w7 at H7 L7 J7 B7 ⊢
      clear q1 q2 q3
      go_wp2_with (first
        | (refine wpl_load (by rfl) 40 _ (by rfl) w2.heap.size (by rfl) 40 _ L7 _ Try.underlying40 rfl _ sizeHeard (by rfl) ?_)
        | (refine wpl_store (by rfl) 40 _ _ (by rfl) w1.heap.size (by rfl) _ (by rfl) _ rfl 40 _ J7 (by rfl) _ sizeHeard (by rfl) (by simp [Value.oneCell']) ?_; intro w8 J8 s8 g8))
      obtain ⟨k0, k1, k2, k3, k4, k5⟩ := cells6 J8
      refine bodyPost_ret (v := .agg (hdL 0 ⟨#[]⟩ 0 0 0 0).toArray) (by simp [results, Try.results15, go_sem, k0, k1, k2, k3, k4, k5]) rfl ?_
      exact ⟨rfl, H7.but g8 (by omega), B7.new g8 (by omega)⟩
  · rw [h] at hb; cases hb
  · have h1' : (K != 0) = false := by simpa using h1
    have h2' : (m != 4) = false := by simpa using h2
    simp only [h3] at hr
    obtain rfl : sn = true := by rw [hsn]; simpa using h4
    have h5' : decide (now < t1) = true := decide_eq_true h5
    clear h hb h1 h2 h3 hI hsn h4
    go_enter Try.func15, Try.ntmps15
    go_wp2_with (first
      | (refine wpl_alloc (by rfl) 40 (by rfl) (.agg (zH).toArray) (zH) zeroHeard rfl ?_; intro w3 L3 s3 b3; (have H3 := H2.below b3 (by omega)); (have J3 := J2.below b3 (by omega)); (have P3 := P2.below b3 (by omega)))
      | ((refine wpl_box (by rfl) 31 _ (by rfl) _ ([.int .i64 l, .int .i64 v, .int .i64 m, .int .i64 st, .int .i64 po, .int .i64 pr, .int .u32 rd, .int .u32 rp, .int .u32 id, .int .u64 ref, .int .u64 org, .int .u64 rec, .int .u64 xmt]) (by rfl) rfl ?_; intro w1 P1 s1 b1); (have H1 := H.below b1 hlt))
      | ((refine wpl_alloc (by rfl) 40 (by rfl) (.agg (zH).toArray) (zH) zeroHeard rfl ?_; intro w2 J2 s2 b2); (have H2 := H1.below b2 (by omega)); (have P2 := P1.below b2 (by omega)))
      | ((refine wpl_store (by rfl) 40 _ _ (by rfl) w2.heap.size (by rfl) _ (by rfl) _ rfl 40 _ L3 (by rfl) _ sizeHeard (by rfl) (by simp [Value.oneCell']) ?_; intro w4 L4 s4 g4); (have H4 := H3.but g4 (by omega)); (have J4 := J3.but g4 (by omega)); (have P4 := P3.but g4 (by omega)))
      | (refine wpl_load (by rfl) 31 _ (by rfl) w.heap.size (by rfl) 31 _ P4 _ Try.underlying31 rfl _ sizeNtp (by rfl) ?_)
      | (go_at_call 29; ((with_reducible refine (hC _).mono ?_); rintro e w5 ⟨rfl, b5⟩; (have H5 := H4.below b5 (by omega)); (have P5 := P4.below b5 (by omega)); (have J5 := J4.below b5 (by omega)); (have L5 := L4.below b5 (by omega)); (have z5 := b5.size)))
      | (go_at_call 26; ((with_reducible refine (hr _).mono ?_); rintro e w1 ⟨rfl, rfl⟩))
      | (refine wpl_loadf (by rfl) 3 _ (by rfl) w.heap.size 2 (by rfl) _ _ P5 _ rfl _ Try.underlying3 rfl ?_) | (refine wpl_loadf (by rfl) 4 _ (by rfl) g 1 (by rfl) _ _ H5 _ rfl _ Try.underlying4 rfl ?_) | (refine wpl_loadf (by rfl) 3 _ (by rfl) g 3 (by rfl) _ _ H5 _ rfl _ Try.underlying3 rfl ?_) | (refine wpl_loadf (by rfl) 4 _ (by rfl) g 2 (by rfl) _ _ H5 _ rfl _ Try.underlying4 rfl ?_)
      | ((refine wpl_storeg (by rfl) 3 _ _ (by rfl) w2.heap.size 0 (by rfl) (.int .i64 0) (by rfl) (by rfl) (by simp [Value.oneCell']) _ _ (hdL 0 ⟨#[]⟩ 0 0 0 0) L5 (by simp) sizeI64 (by rfl) ?_; intro w6 L6 s6 g6); (have H6 := H5.but g6 (by omega)); (have J6 := J5.but g6 (by omega))))
    have G5 : But g w w5 := ((((But.of_below b1 (Nat.le_refl _)).then b2 (by omega)).then b3 (by omega)).new g4 (by omega)).then b5 (by omega)
    have G6 : But g w w6 := G5.new g6 (by omega)
    clear P1 J2 H1 H2 P2 H3 J3 L3 P3 H4 J4 P4 L4 b1 b2 b3 g4 b5 H5 P5 J5 L5 G5 g6
    have q1 := L6.cell (i := 0) rfl
    have q2 := H6.cell (i := 6) rfl
    have q3 := H6.frozen
    have B7 : But g w (w6.setCell ⟨g, 6, none⟩ (.int .i64 (c0 + 1))).drew := But.trans G6 ⟨rfl, rfl, rfl, by simp [World.setCell, World.drew], fun k _ hk => Below.heap_setCell _ _ _ _ (fun e => hk (by rw [e]))⟩
    have H7 : Blk (w6.setCell ⟨g, 6, none⟩ (.int .i64 (c0 + 1))).drew g 59 (raL ver true pd t1 nc lx (c0 + 1) c1 c2 c3 c4 c5 c6 c7) := (H6.set 6 (.int .i64 (c0 + 1))).drew
    have L7 : Blk (w6.setCell ⟨g, 6, none⟩ (.int .i64 (c0 + 1))).drew w2.heap.size 40 (hdL 0 ⟨#[]⟩ 0 0 0 0) := (L6.but (but_setCell w6 g 6 _) (by omega)).drew
    have J7 : Blk (w6.setCell ⟨g, 6, none⟩ (.int .i64 (c0 + 1))).drew w1.heap.size 40 zH := (J6.but (but_setCell w6 g 6 _) (by omega)).drew
    clear H6 L6 J6 G6
    go_region
    all_goals
      generalize (w6.setCell ⟨g, 6, none⟩ (.int .i64 (c0 + 1))).drew = w7 at H7 L7 J7 B7 ⊢
      clear q1 q2 q3
      go_wp2_with (first
        | (refine wpl_load (by rfl) 40 _ (by rfl) w2.heap.size (by rfl) 40 _ L7 _ Try.underlying40 rfl _ sizeHeard (by rfl) ?_)
        | (refine wpl_store (by rfl) 40 _ _ (by rfl) w1.heap.size (by rfl) _ (by rfl) _ rfl 40 _ J7 (by rfl) _ sizeHeard (by rfl) (by simp [Value.oneCell']) ?_; intro w8 J8 s8 g8))
      obtain ⟨k0, k1, k2, k3, k4, k5⟩ := cells6 J8
      refine bodyPost_ret (v := .agg (hdL 0 ⟨#[]⟩ 0 0 0 0).toArray) (by simp [results, Try.results15, go_sem, k0, k1, k2, k3, k4, k5]) rfl ?_
      exact ⟨rfl, H7.but g8 (by omega), B7.new g8 (by omega)⟩
  · rw [h] at hb; cases hb
set_option maxRecDepth 100000 in
set_option maxHeartbeats 8000000 in
theorem rrec_none (g : Nat) (ver t1 nc : Int) (sn : Bool) (lx c0 c1 c2 c3 c4 c5 c6 c7 now l v m st po pr rd rp id ref org rec xmt : Int) (w : World) (H : Blk w g 59 (raL ver sn false t1 nc lx c0 c1 c2 c3 c4 c5 c6 c7)) (hc : CB c1) (hI : nc = 0 → t1 = 0) (hsn : sn = !decide (nc = 0)) (hb : badB (nchk l v m st po pr) m now nc t1 = false) :
    Calls Try.prog 15 #[.pointer (some ⟨g, 0, none⟩), ntp l v m st po pr rd rp id ref org rec xmt, .int .i64 now] w fun e w' => e = .returned (.agg (hdL 1 ⟨#[]⟩ 0 0 0 0).toArray) ∧ Blk w' g 59 (raL ver sn false t1 nc lx c0 (c1 + 1) c2 c3 c4 c5 c6 c7) ∧ But g w w' := by
  have hr := fun W => rin_any now W
  have hC := fun W => rnchk_any l v m st po pr rd rp id ref org rec xmt W
  have hlt := H.lt
  have hcw : IntKind.i64.wrap (c1 + 1) = c1 + 1 := by rw [IntKind.wrap_i64]; omega
  obtain ⟨K, hK⟩ : ∃ K, K = nchk l v m st po pr := ⟨_, rfl⟩
  rw [← hK] at hb hC
  clear hK
  obtain ⟨hK0', hm4', h3, h4⟩ := rgood hI hsn hb
  simp only [h3] at hr
  clear hb hI hsn h3
  rcases h4 with rfl | ⟨rfl, h6⟩
  · skip
    go_enter Try.func15, Try.ntmps15
    go_wp2_with (first
      | (refine wpl_alloc (by rfl) 40 (by rfl) (.agg (zH).toArray) (zH) zeroHeard rfl ?_; intro w3 L3 s3 b3; (have H3 := H2.below b3 (by omega)); (have J3 := J2.below b3 (by omega)); (have P3 := P2.below b3 (by omega)))
      | ((refine wpl_box (by rfl) 31 _ (by rfl) _ ([.int .i64 l, .int .i64 v, .int .i64 m, .int .i64 st, .int .i64 po, .int .i64 pr, .int .u32 rd, .int .u32 rp, .int .u32 id, .int .u64 ref, .int .u64 org, .int .u64 rec, .int .u64 xmt]) (by rfl) rfl ?_; intro w1 P1 s1 b1); (have H1 := H.below b1 hlt))
      | ((refine wpl_alloc (by rfl) 40 (by rfl) (.agg (zH).toArray) (zH) zeroHeard rfl ?_; intro w2 J2 s2 b2); (have H2 := H1.below b2 (by omega)); (have P2 := P1.below b2 (by omega)))
      | ((refine wpl_store (by rfl) 40 _ _ (by rfl) w2.heap.size (by rfl) _ (by rfl) _ rfl 40 _ L3 (by rfl) _ sizeHeard (by rfl) (by simp [Value.oneCell']) ?_; intro w4 L4 s4 g4); (have H4 := H3.but g4 (by omega)); (have J4 := J3.but g4 (by omega)); (have P4 := P3.but g4 (by omega)))
      | (refine wpl_load (by rfl) 31 _ (by rfl) w.heap.size (by rfl) 31 _ P4 _ Try.underlying31 rfl _ sizeNtp (by rfl) ?_)
      | (go_at_call 29; ((with_reducible refine (hC _).mono ?_); rintro e w5 ⟨rfl, b5⟩; (have H5 := H4.below b5 (by omega)); (have P5 := P4.below b5 (by omega)); (have J5 := J4.below b5 (by omega)); (have L5 := L4.below b5 (by omega)); (have z5 := b5.size)))
      | (go_at_call 26; ((with_reducible refine (hr _).mono ?_); rintro e w1 ⟨rfl, rfl⟩))
      | (refine wpl_loadf (by rfl) 3 _ (by rfl) w.heap.size 2 (by rfl) _ _ P5 _ rfl _ Try.underlying3 rfl ?_) | (refine wpl_loadf (by rfl) 4 _ (by rfl) g 1 (by rfl) _ _ H5 _ rfl _ Try.underlying4 rfl ?_) | (refine wpl_loadf (by rfl) 3 _ (by rfl) g 3 (by rfl) _ _ H5 _ rfl _ Try.underlying3 rfl ?_) | (refine wpl_loadf (by rfl) 4 _ (by rfl) g 2 (by rfl) _ _ H5 _ rfl _ Try.underlying4 rfl ?_)
      | ((refine wpl_storeg (by rfl) 3 _ _ (by rfl) w2.heap.size 0 (by rfl) (.int .i64 1) (by rfl) (by rfl) (by simp [Value.oneCell']) _ _ (hdL 1 ⟨#[]⟩ 0 0 0 0) L5 (by simp) sizeI64 (by rfl) ?_; intro w6 L6 s6 g6); (have H6 := H5.but g6 (by omega)); (have J6 := J5.but g6 (by omega))))
    have G5 : But g w w5 := ((((But.of_below b1 (Nat.le_refl _)).then b2 (by omega)).then b3 (by omega)).new g4 (by omega)).then b5 (by omega)
    have G6 : But g w w6 := G5.new g6 (by omega)
    clear P1 J2 H1 H2 P2 H3 J3 L3 P3 H4 J4 P4 L4 b1 b2 b3 g4 b5 H5 P5 J5 L5 G5 g6
    have q1 := L6.cell (i := 0) rfl
    have q2 := H6.cell (i := 7) rfl
    have q3 := H6.frozen
    have B7 : But g w (w6.setCell ⟨g, 7, none⟩ (.int .i64 (c1 + 1))).drew := But.trans G6 ⟨rfl, rfl, rfl, by simp [World.setCell, World.drew], fun k _ hk => Below.heap_setCell _ _ _ _ (fun e => hk (by rw [e]))⟩
    have H7 : Blk (w6.setCell ⟨g, 7, none⟩ (.int .i64 (c1 + 1))).drew g 59 (raL ver false false t1 nc lx c0 (c1 + 1) c2 c3 c4 c5 c6 c7) := (H6.set 7 (.int .i64 (c1 + 1))).drew
    have L7 : Blk (w6.setCell ⟨g, 7, none⟩ (.int .i64 (c1 + 1))).drew w2.heap.size 40 (hdL 1 ⟨#[]⟩ 0 0 0 0) := (L6.but (but_setCell w6 g 7 _) (by omega)).drew
    have J7 : Blk (w6.setCell ⟨g, 7, none⟩ (.int .i64 (c1 + 1))).drew w1.heap.size 40 zH := (J6.but (but_setCell w6 g 7 _) (by omega)).drew
    clear H6 L6 J6 G6
    go_region
    all_goals
      generalize (w6.setCell ⟨g, 7, none⟩ (.int .i64 (c1 + 1))).drew = w7 at H7 L7 J7 B7 ⊢
      clear q1 q2 q3
      go_wp2_with (first
        | (refine wpl_load (by rfl) 40 _ (by rfl) w2.heap.size (by rfl) 40 _ L7 _ Try.underlying40 rfl _ sizeHeard (by rfl) ?_)
        | (refine wpl_store (by rfl) 40 _ _ (by rfl) w1.heap.size (by rfl) _ (by rfl) _ rfl 40 _ J7 (by rfl) _ sizeHeard (by rfl) (by simp [Value.oneCell']) ?_; intro w8 J8 s8 g8))
      obtain ⟨k0, k1, k2, k3, k4, k5⟩ := cells6 J8
      refine bodyPost_ret (v := .agg (hdL 1 ⟨#[]⟩ 0 0 0 0).toArray) (by simp [results, Try.results15, go_sem, k0, k1, k2, k3, k4, k5]) rfl ?_
      exact ⟨rfl, H7.but g8 (by omega), B7.new g8 (by omega)⟩
  · skip
    go_enter Try.func15, Try.ntmps15
    go_wp2_with (first
      | (refine wpl_alloc (by rfl) 40 (by rfl) (.agg (zH).toArray) (zH) zeroHeard rfl ?_; intro w3 L3 s3 b3; (have H3 := H2.below b3 (by omega)); (have J3 := J2.below b3 (by omega)); (have P3 := P2.below b3 (by omega)))
      | ((refine wpl_box (by rfl) 31 _ (by rfl) _ ([.int .i64 l, .int .i64 v, .int .i64 m, .int .i64 st, .int .i64 po, .int .i64 pr, .int .u32 rd, .int .u32 rp, .int .u32 id, .int .u64 ref, .int .u64 org, .int .u64 rec, .int .u64 xmt]) (by rfl) rfl ?_; intro w1 P1 s1 b1); (have H1 := H.below b1 hlt))
      | ((refine wpl_alloc (by rfl) 40 (by rfl) (.agg (zH).toArray) (zH) zeroHeard rfl ?_; intro w2 J2 s2 b2); (have H2 := H1.below b2 (by omega)); (have P2 := P1.below b2 (by omega)))
      | ((refine wpl_store (by rfl) 40 _ _ (by rfl) w2.heap.size (by rfl) _ (by rfl) _ rfl 40 _ L3 (by rfl) _ sizeHeard (by rfl) (by simp [Value.oneCell']) ?_; intro w4 L4 s4 g4); (have H4 := H3.but g4 (by omega)); (have J4 := J3.but g4 (by omega)); (have P4 := P3.but g4 (by omega)))
      | (refine wpl_load (by rfl) 31 _ (by rfl) w.heap.size (by rfl) 31 _ P4 _ Try.underlying31 rfl _ sizeNtp (by rfl) ?_)
      | (go_at_call 29; ((with_reducible refine (hC _).mono ?_); rintro e w5 ⟨rfl, b5⟩; (have H5 := H4.below b5 (by omega)); (have P5 := P4.below b5 (by omega)); (have J5 := J4.below b5 (by omega)); (have L5 := L4.below b5 (by omega)); (have z5 := b5.size)))
      | (go_at_call 26; ((with_reducible refine (hr _).mono ?_); rintro e w1 ⟨rfl, rfl⟩))
      | (refine wpl_loadf (by rfl) 3 _ (by rfl) w.heap.size 2 (by rfl) _ _ P5 _ rfl _ Try.underlying3 rfl ?_) | (refine wpl_loadf (by rfl) 4 _ (by rfl) g 1 (by rfl) _ _ H5 _ rfl _ Try.underlying4 rfl ?_) | (refine wpl_loadf (by rfl) 3 _ (by rfl) g 3 (by rfl) _ _ H5 _ rfl _ Try.underlying3 rfl ?_) | (refine wpl_loadf (by rfl) 4 _ (by rfl) g 2 (by rfl) _ _ H5 _ rfl _ Try.underlying4 rfl ?_)
      | ((refine wpl_storeg (by rfl) 3 _ _ (by rfl) w2.heap.size 0 (by rfl) (.int .i64 1) (by rfl) (by rfl) (by simp [Value.oneCell']) _ _ (hdL 1 ⟨#[]⟩ 0 0 0 0) L5 (by simp) sizeI64 (by rfl) ?_; intro w6 L6 s6 g6); (have H6 := H5.but g6 (by omega)); (have J6 := J5.but g6 (by omega))))
    have G5 : But g w w5 := ((((But.of_below b1 (Nat.le_refl _)).then b2 (by omega)).then b3 (by omega)).new g4 (by omega)).then b5 (by omega)
    have G6 : But g w w6 := G5.new g6 (by omega)
    clear P1 J2 H1 H2 P2 H3 J3 L3 P3 H4 J4 P4 L4 b1 b2 b3 g4 b5 H5 P5 J5 L5 G5 g6
    have q1 := L6.cell (i := 0) rfl
    have q2 := H6.cell (i := 7) rfl
    have q3 := H6.frozen
    have B7 : But g w (w6.setCell ⟨g, 7, none⟩ (.int .i64 (c1 + 1))).drew := But.trans G6 ⟨rfl, rfl, rfl, by simp [World.setCell, World.drew], fun k _ hk => Below.heap_setCell _ _ _ _ (fun e => hk (by rw [e]))⟩
    have H7 : Blk (w6.setCell ⟨g, 7, none⟩ (.int .i64 (c1 + 1))).drew g 59 (raL ver true false t1 nc lx c0 (c1 + 1) c2 c3 c4 c5 c6 c7) := (H6.set 7 (.int .i64 (c1 + 1))).drew
    have L7 : Blk (w6.setCell ⟨g, 7, none⟩ (.int .i64 (c1 + 1))).drew w2.heap.size 40 (hdL 1 ⟨#[]⟩ 0 0 0 0) := (L6.but (but_setCell w6 g 7 _) (by omega)).drew
    have J7 : Blk (w6.setCell ⟨g, 7, none⟩ (.int .i64 (c1 + 1))).drew w1.heap.size 40 zH := (J6.but (but_setCell w6 g 7 _) (by omega)).drew
    clear H6 L6 J6 G6
    go_region
    all_goals
      generalize (w6.setCell ⟨g, 7, none⟩ (.int .i64 (c1 + 1))).drew = w7 at H7 L7 J7 B7 ⊢
      clear q1 q2 q3
      go_wp2_with (first
        | (refine wpl_load (by rfl) 40 _ (by rfl) w2.heap.size (by rfl) 40 _ L7 _ Try.underlying40 rfl _ sizeHeard (by rfl) ?_)
        | (refine wpl_store (by rfl) 40 _ _ (by rfl) w1.heap.size (by rfl) _ (by rfl) _ rfl 40 _ J7 (by rfl) _ sizeHeard (by rfl) (by simp [Value.oneCell']) ?_; intro w8 J8 s8 g8))
      obtain ⟨k0, k1, k2, k3, k4, k5⟩ := cells6 J8
      refine bodyPost_ret (v := .agg (hdL 1 ⟨#[]⟩ 0 0 0 0).toArray) (by simp [results, Try.results15, go_sem, k0, k1, k2, k3, k4, k5]) rfl ?_
      exact ⟨rfl, H7.but g8 (by omega), B7.new g8 (by omega)⟩
set_option maxRecDepth 100000 in
set_option maxHeartbeats 8000000 in
theorem rrec_bogus (g : Nat) (ver t1 nc : Int) (sn : Bool) (lx c0 c1 c2 c3 c4 c5 c6 c7 now l v m st po pr rd rp id ref org rec xmt : Int) (w : World) (H : Blk w g 59 (raL ver sn true t1 nc lx c0 c1 c2 c3 c4 c5 c6 c7)) (hc : CB c2) (hI : nc = 0 → t1 = 0) (hsn : sn = !decide (nc = 0)) (hb : badB (nchk l v m st po pr) m now nc t1 = false) (ho : org ≠ nc) :
    Calls Try.prog 15 #[.pointer (some ⟨g, 0, none⟩), ntp l v m st po pr rd rp id ref org rec xmt, .int .i64 now] w fun e w' => e = .returned (.agg (hdL 2 ⟨#[]⟩ 0 0 0 0).toArray) ∧ Blk w' g 59 (raL ver sn true t1 nc lx c0 c1 (c2 + 1) c3 c4 c5 c6 c7) ∧ But g w w' := by
  have hr := fun W => rin_any now W
  have hC := fun W => rnchk_any l v m st po pr rd rp id ref org rec xmt W
  have hlt := H.lt
  have hcw : IntKind.i64.wrap (c2 + 1) = c2 + 1 := by rw [IntKind.wrap_i64]; omega
  obtain ⟨K, hK⟩ : ∃ K, K = nchk l v m st po pr := ⟨_, rfl⟩
  rw [← hK] at hb hC
  clear hK
  obtain ⟨hK0', hm4', h3, h4⟩ := rgood hI hsn hb
  simp only [h3] at hr
  clear hb hI hsn h3
  have ho' : (org != nc) = true := by simpa using ho
  clear ho
  rcases h4 with rfl | ⟨rfl, h6⟩
  · skip
    go_enter Try.func15, Try.ntmps15
    go_wp2_with (first
      | (refine wpl_alloc (by rfl) 40 (by rfl) (.agg (zH).toArray) (zH) zeroHeard rfl ?_; intro w3 L3 s3 b3; (have H3 := H2.below b3 (by omega)); (have J3 := J2.below b3 (by omega)); (have P3 := P2.below b3 (by omega)))
      | ((refine wpl_box (by rfl) 31 _ (by rfl) _ ([.int .i64 l, .int .i64 v, .int .i64 m, .int .i64 st, .int .i64 po, .int .i64 pr, .int .u32 rd, .int .u32 rp, .int .u32 id, .int .u64 ref, .int .u64 org, .int .u64 rec, .int .u64 xmt]) (by rfl) rfl ?_; intro w1 P1 s1 b1); (have H1 := H.below b1 hlt))
      | ((refine wpl_alloc (by rfl) 40 (by rfl) (.agg (zH).toArray) (zH) zeroHeard rfl ?_; intro w2 J2 s2 b2); (have H2 := H1.below b2 (by omega)); (have P2 := P1.below b2 (by omega)))
      | ((refine wpl_store (by rfl) 40 _ _ (by rfl) w2.heap.size (by rfl) _ (by rfl) _ rfl 40 _ L3 (by rfl) _ sizeHeard (by rfl) (by simp [Value.oneCell']) ?_; intro w4 L4 s4 g4); (have H4 := H3.but g4 (by omega)); (have J4 := J3.but g4 (by omega)); (have P4 := P3.but g4 (by omega)))
      | (refine wpl_load (by rfl) 31 _ (by rfl) w.heap.size (by rfl) 31 _ P4 _ Try.underlying31 rfl _ sizeNtp (by rfl) ?_)
      | (go_at_call 29; ((with_reducible refine (hC _).mono ?_); rintro e w5 ⟨rfl, b5⟩; (have H5 := H4.below b5 (by omega)); (have P5 := P4.below b5 (by omega)); (have J5 := J4.below b5 (by omega)); (have L5 := L4.below b5 (by omega)); (have z5 := b5.size)))
      | (go_at_call 26; ((with_reducible refine (hr _).mono ?_); rintro e w1 ⟨rfl, rfl⟩))
      | (refine wpl_loadf (by rfl) 3 _ (by rfl) w.heap.size 2 (by rfl) _ _ P5 _ rfl _ Try.underlying3 rfl ?_) | (refine wpl_loadf (by rfl) 4 _ (by rfl) g 1 (by rfl) _ _ H5 _ rfl _ Try.underlying4 rfl ?_) | (refine wpl_loadf (by rfl) 3 _ (by rfl) g 3 (by rfl) _ _ H5 _ rfl _ Try.underlying3 rfl ?_) | (refine wpl_loadf (by rfl) 4 _ (by rfl) g 2 (by rfl) _ _ H5 _ rfl _ Try.underlying4 rfl ?_)
      )
    have G5 : But g w w5 := ((((But.of_below b1 (Nat.le_refl _)).then b2 (by omega)).then b3 (by omega)).new g4 (by omega)).then b5 (by omega)
    clear P1 J2 H1 H2 P2 H3 J3 L3 P3 H4 J4 P4 L4 b1 b2 b3 g4 b5
    have q1 := P5.cell (i := 10) rfl
    have q2 := H5.cell (i := 4) rfl
    go_region_held3 (fun w' => w'.cell? ⟨w.heap.size, 10, none⟩ = some (.int .u64 org) ∧ w'.cell? ⟨g, 4, none⟩ = some (.int .u64 nc)) (exact ⟨q1, q2⟩) (fail)
    clear q1 q2
    have H5' := H5.drew
    have P5' := P5.drew
    have J5' := J5.drew
    have L5' := L5.drew
    have G5' : But g w w5.drew := ⟨G5.os, G5.tape, G5.output, G5.size, G5.block⟩
    have z5' : w4.heap.size ≤ w5.drew.heap.size := z5
    clear H5 P5 J5 L5 G5 z5
    generalize w5.drew = w5' at H5' P5' J5' L5' G5' z5' ⊢
    rename_i w5old
    have H5 := H5'
    have P5 := P5'
    have J5 := J5'
    have L5 := L5'
    have G5 := G5'
    have z5 := z5'
    clear H5' P5' J5' L5' G5' z5'
    go_wp2_with (first | ((refine wpl_storeg (by rfl) 3 _ _ (by rfl) w2.heap.size 0 (by rfl) (.int .i64 2) (by rfl) (by rfl) (by simp [Value.oneCell']) _ _ (hdL 2 ⟨#[]⟩ 0 0 0 0) L5 (by simp) sizeI64 (by rfl) ?_; intro w6 L6 s6 g6); (have H6 := H5.but g6 (by omega)); (have J6 := J5.but g6 (by omega))))
    have G6 : But g w w6 := G5.new g6 (by omega)
    clear H5 L5 J5 P5 G5 g6
    have q1 := L6.cell (i := 0) rfl
    have q2 := H6.cell (i := 8) rfl
    have q3 := H6.frozen
    have B7 : But g w (w6.setCell ⟨g, 8, none⟩ (.int .i64 (c2 + 1))).drew := But.trans G6 ⟨rfl, rfl, rfl, by simp [World.setCell, World.drew], fun k _ hk => Below.heap_setCell _ _ _ _ (fun e => hk (by rw [e]))⟩
    have H7 : Blk (w6.setCell ⟨g, 8, none⟩ (.int .i64 (c2 + 1))).drew g 59 (raL ver false true t1 nc lx c0 c1 (c2 + 1) c3 c4 c5 c6 c7) := (H6.set 8 (.int .i64 (c2 + 1))).drew
    have L7 : Blk (w6.setCell ⟨g, 8, none⟩ (.int .i64 (c2 + 1))).drew w2.heap.size 40 (hdL 2 ⟨#[]⟩ 0 0 0 0) := (L6.but (but_setCell w6 g 8 _) (by omega)).drew
    have J7 : Blk (w6.setCell ⟨g, 8, none⟩ (.int .i64 (c2 + 1))).drew w1.heap.size 40 zH := (J6.but (but_setCell w6 g 8 _) (by omega)).drew
    clear H6 L6 J6 G6
    go_region
    all_goals
      generalize (w6.setCell ⟨g, 8, none⟩ (.int .i64 (c2 + 1))).drew = w7 at H7 L7 J7 B7 ⊢
      clear q1 q2 q3
      go_wp2_with (first
        | (refine wpl_load (by rfl) 40 _ (by rfl) w2.heap.size (by rfl) 40 _ L7 _ Try.underlying40 rfl _ sizeHeard (by rfl) ?_)
        | (refine wpl_store (by rfl) 40 _ _ (by rfl) w1.heap.size (by rfl) _ (by rfl) _ rfl 40 _ J7 (by rfl) _ sizeHeard (by rfl) (by simp [Value.oneCell']) ?_; intro w8 J8 s8 g8))
      obtain ⟨k0, k1, k2, k3, k4, k5⟩ := cells6 J8
      refine bodyPost_ret (v := .agg (hdL 2 ⟨#[]⟩ 0 0 0 0).toArray) (by simp [results, Try.results15, go_sem, k0, k1, k2, k3, k4, k5]) rfl ?_
      exact ⟨rfl, H7.but g8 (by omega), B7.new g8 (by omega)⟩
  · skip
    go_enter Try.func15, Try.ntmps15
    go_wp2_with (first
      | (refine wpl_alloc (by rfl) 40 (by rfl) (.agg (zH).toArray) (zH) zeroHeard rfl ?_; intro w3 L3 s3 b3; (have H3 := H2.below b3 (by omega)); (have J3 := J2.below b3 (by omega)); (have P3 := P2.below b3 (by omega)))
      | ((refine wpl_box (by rfl) 31 _ (by rfl) _ ([.int .i64 l, .int .i64 v, .int .i64 m, .int .i64 st, .int .i64 po, .int .i64 pr, .int .u32 rd, .int .u32 rp, .int .u32 id, .int .u64 ref, .int .u64 org, .int .u64 rec, .int .u64 xmt]) (by rfl) rfl ?_; intro w1 P1 s1 b1); (have H1 := H.below b1 hlt))
      | ((refine wpl_alloc (by rfl) 40 (by rfl) (.agg (zH).toArray) (zH) zeroHeard rfl ?_; intro w2 J2 s2 b2); (have H2 := H1.below b2 (by omega)); (have P2 := P1.below b2 (by omega)))
      | ((refine wpl_store (by rfl) 40 _ _ (by rfl) w2.heap.size (by rfl) _ (by rfl) _ rfl 40 _ L3 (by rfl) _ sizeHeard (by rfl) (by simp [Value.oneCell']) ?_; intro w4 L4 s4 g4); (have H4 := H3.but g4 (by omega)); (have J4 := J3.but g4 (by omega)); (have P4 := P3.but g4 (by omega)))
      | (refine wpl_load (by rfl) 31 _ (by rfl) w.heap.size (by rfl) 31 _ P4 _ Try.underlying31 rfl _ sizeNtp (by rfl) ?_)
      | (go_at_call 29; ((with_reducible refine (hC _).mono ?_); rintro e w5 ⟨rfl, b5⟩; (have H5 := H4.below b5 (by omega)); (have P5 := P4.below b5 (by omega)); (have J5 := J4.below b5 (by omega)); (have L5 := L4.below b5 (by omega)); (have z5 := b5.size)))
      | (go_at_call 26; ((with_reducible refine (hr _).mono ?_); rintro e w1 ⟨rfl, rfl⟩))
      | (refine wpl_loadf (by rfl) 3 _ (by rfl) w.heap.size 2 (by rfl) _ _ P5 _ rfl _ Try.underlying3 rfl ?_) | (refine wpl_loadf (by rfl) 4 _ (by rfl) g 1 (by rfl) _ _ H5 _ rfl _ Try.underlying4 rfl ?_) | (refine wpl_loadf (by rfl) 3 _ (by rfl) g 3 (by rfl) _ _ H5 _ rfl _ Try.underlying3 rfl ?_) | (refine wpl_loadf (by rfl) 4 _ (by rfl) g 2 (by rfl) _ _ H5 _ rfl _ Try.underlying4 rfl ?_)
      )
    have G5 : But g w w5 := ((((But.of_below b1 (Nat.le_refl _)).then b2 (by omega)).then b3 (by omega)).new g4 (by omega)).then b5 (by omega)
    clear P1 J2 H1 H2 P2 H3 J3 L3 P3 H4 J4 P4 L4 b1 b2 b3 g4 b5
    have q1 := P5.cell (i := 10) rfl
    have q2 := H5.cell (i := 4) rfl
    go_region_held3 (fun w' => w'.cell? ⟨w.heap.size, 10, none⟩ = some (.int .u64 org) ∧ w'.cell? ⟨g, 4, none⟩ = some (.int .u64 nc)) (exact ⟨q1, q2⟩) (fail)
    clear q1 q2
    have H5' := H5.drew
    have P5' := P5.drew
    have J5' := J5.drew
    have L5' := L5.drew
    have G5' : But g w w5.drew := ⟨G5.os, G5.tape, G5.output, G5.size, G5.block⟩
    have z5' : w4.heap.size ≤ w5.drew.heap.size := z5
    clear H5 P5 J5 L5 G5 z5
    generalize w5.drew = w5' at H5' P5' J5' L5' G5' z5' ⊢
    rename_i w5old
    have H5 := H5'
    have P5 := P5'
    have J5 := J5'
    have L5 := L5'
    have G5 := G5'
    have z5 := z5'
    clear H5' P5' J5' L5' G5' z5'
    go_wp2_with (first | ((refine wpl_storeg (by rfl) 3 _ _ (by rfl) w2.heap.size 0 (by rfl) (.int .i64 2) (by rfl) (by rfl) (by simp [Value.oneCell']) _ _ (hdL 2 ⟨#[]⟩ 0 0 0 0) L5 (by simp) sizeI64 (by rfl) ?_; intro w6 L6 s6 g6); (have H6 := H5.but g6 (by omega)); (have J6 := J5.but g6 (by omega))))
    have G6 : But g w w6 := G5.new g6 (by omega)
    clear H5 L5 J5 P5 G5 g6
    have q1 := L6.cell (i := 0) rfl
    have q2 := H6.cell (i := 8) rfl
    have q3 := H6.frozen
    have B7 : But g w (w6.setCell ⟨g, 8, none⟩ (.int .i64 (c2 + 1))).drew := But.trans G6 ⟨rfl, rfl, rfl, by simp [World.setCell, World.drew], fun k _ hk => Below.heap_setCell _ _ _ _ (fun e => hk (by rw [e]))⟩
    have H7 : Blk (w6.setCell ⟨g, 8, none⟩ (.int .i64 (c2 + 1))).drew g 59 (raL ver true true t1 nc lx c0 c1 (c2 + 1) c3 c4 c5 c6 c7) := (H6.set 8 (.int .i64 (c2 + 1))).drew
    have L7 : Blk (w6.setCell ⟨g, 8, none⟩ (.int .i64 (c2 + 1))).drew w2.heap.size 40 (hdL 2 ⟨#[]⟩ 0 0 0 0) := (L6.but (but_setCell w6 g 8 _) (by omega)).drew
    have J7 : Blk (w6.setCell ⟨g, 8, none⟩ (.int .i64 (c2 + 1))).drew w1.heap.size 40 zH := (J6.but (but_setCell w6 g 8 _) (by omega)).drew
    clear H6 L6 J6 G6
    go_region
    all_goals
      generalize (w6.setCell ⟨g, 8, none⟩ (.int .i64 (c2 + 1))).drew = w7 at H7 L7 J7 B7 ⊢
      clear q1 q2 q3
      go_wp2_with (first
        | (refine wpl_load (by rfl) 40 _ (by rfl) w2.heap.size (by rfl) 40 _ L7 _ Try.underlying40 rfl _ sizeHeard (by rfl) ?_)
        | (refine wpl_store (by rfl) 40 _ _ (by rfl) w1.heap.size (by rfl) _ (by rfl) _ rfl 40 _ J7 (by rfl) _ sizeHeard (by rfl) (by simp [Value.oneCell']) ?_; intro w8 J8 s8 g8))
      obtain ⟨k0, k1, k2, k3, k4, k5⟩ := cells6 J8
      refine bodyPost_ret (v := .agg (hdL 2 ⟨#[]⟩ 0 0 0 0).toArray) (by simp [results, Try.results15, go_sem, k0, k1, k2, k3, k4, k5]) rfl ?_
      exact ⟨rfl, H7.but g8 (by omega), B7.new g8 (by omega)⟩
set_option maxRecDepth 100000 in
set_option maxHeartbeats 8000000 in
theorem rrec_dup (g : Nat) (ver t1 nc : Int) (sn : Bool) (lx c0 c1 c2 c3 c4 c5 c6 c7 now l v m st po pr rd rp id ref org rec xmt : Int) (w : World) (H : Blk w g 59 (raL ver sn true t1 nc lx c0 c1 c2 c3 c4 c5 c6 c7)) (hc : CB c3) (hI : nc = 0 → t1 = 0) (hsn : sn = !decide (nc = 0)) (hb : badB (nchk l v m st po pr) m now nc t1 = false) (ho : org = nc) (hx : xmt ≠ 0) (hl : xmt = lx) :
    Calls Try.prog 15 #[.pointer (some ⟨g, 0, none⟩), ntp l v m st po pr rd rp id ref org rec xmt, .int .i64 now] w fun e w' => e = .returned (.agg (hdL 3 ⟨#[]⟩ 0 0 0 0).toArray) ∧ Blk w' g 59 (raL ver sn true t1 nc lx c0 c1 c2 (c3 + 1) c4 c5 c6 c7) ∧ But g w w' := by
  have hr := fun W => rin_any now W
  have hC := fun W => rnchk_any l v m st po pr rd rp id ref org rec xmt W
  have hlt := H.lt
  have hcw : IntKind.i64.wrap (c3 + 1) = c3 + 1 := by rw [IntKind.wrap_i64]; omega
  obtain ⟨K, hK⟩ : ∃ K, K = nchk l v m st po pr := ⟨_, rfl⟩
  rw [← hK] at hb hC
  clear hK
  obtain ⟨hK0', hm4', h3, h4⟩ := rgood hI hsn hb
  simp only [h3] at hr
  clear hb hI hsn h3
  have ho' : (org != nc) = false := by simpa using ho
  have hx' : (xmt != 0) = true := by simpa using hx
  have hl' : (xmt == lx) = true := by simpa using hl
  clear ho hx hl
  rcases h4 with rfl | ⟨rfl, h6⟩
  · skip
    go_enter Try.func15, Try.ntmps15
    go_wp2_with (first
      | (refine wpl_alloc (by rfl) 40 (by rfl) (.agg (zH).toArray) (zH) zeroHeard rfl ?_; intro w3 L3 s3 b3; (have H3 := H2.below b3 (by omega)); (have J3 := J2.below b3 (by omega)); (have P3 := P2.below b3 (by omega)))
      | ((refine wpl_box (by rfl) 31 _ (by rfl) _ ([.int .i64 l, .int .i64 v, .int .i64 m, .int .i64 st, .int .i64 po, .int .i64 pr, .int .u32 rd, .int .u32 rp, .int .u32 id, .int .u64 ref, .int .u64 org, .int .u64 rec, .int .u64 xmt]) (by rfl) rfl ?_; intro w1 P1 s1 b1); (have H1 := H.below b1 hlt))
      | ((refine wpl_alloc (by rfl) 40 (by rfl) (.agg (zH).toArray) (zH) zeroHeard rfl ?_; intro w2 J2 s2 b2); (have H2 := H1.below b2 (by omega)); (have P2 := P1.below b2 (by omega)))
      | ((refine wpl_store (by rfl) 40 _ _ (by rfl) w2.heap.size (by rfl) _ (by rfl) _ rfl 40 _ L3 (by rfl) _ sizeHeard (by rfl) (by simp [Value.oneCell']) ?_; intro w4 L4 s4 g4); (have H4 := H3.but g4 (by omega)); (have J4 := J3.but g4 (by omega)); (have P4 := P3.but g4 (by omega)))
      | (refine wpl_load (by rfl) 31 _ (by rfl) w.heap.size (by rfl) 31 _ P4 _ Try.underlying31 rfl _ sizeNtp (by rfl) ?_)
      | (go_at_call 29; ((with_reducible refine (hC _).mono ?_); rintro e w5 ⟨rfl, b5⟩; (have H5 := H4.below b5 (by omega)); (have P5 := P4.below b5 (by omega)); (have J5 := J4.below b5 (by omega)); (have L5 := L4.below b5 (by omega)); (have z5 := b5.size)))
      | (go_at_call 26; ((with_reducible refine (hr _).mono ?_); rintro e w1 ⟨rfl, rfl⟩))
      | (refine wpl_loadf (by rfl) 3 _ (by rfl) w.heap.size 2 (by rfl) _ _ P5 _ rfl _ Try.underlying3 rfl ?_) | (refine wpl_loadf (by rfl) 4 _ (by rfl) g 1 (by rfl) _ _ H5 _ rfl _ Try.underlying4 rfl ?_) | (refine wpl_loadf (by rfl) 3 _ (by rfl) g 3 (by rfl) _ _ H5 _ rfl _ Try.underlying3 rfl ?_) | (refine wpl_loadf (by rfl) 4 _ (by rfl) g 2 (by rfl) _ _ H5 _ rfl _ Try.underlying4 rfl ?_)
      )
    have G5 : But g w w5 := ((((But.of_below b1 (Nat.le_refl _)).then b2 (by omega)).then b3 (by omega)).new g4 (by omega)).then b5 (by omega)
    clear P1 J2 H1 H2 P2 H3 J3 L3 P3 H4 J4 P4 L4 b1 b2 b3 g4 b5
    have q1 := P5.cell (i := 10) rfl
    have q2 := H5.cell (i := 4) rfl
    go_region_held3 (fun w' => w'.cell? ⟨w.heap.size, 10, none⟩ = some (.int .u64 org) ∧ w'.cell? ⟨g, 4, none⟩ = some (.int .u64 nc)) (exact ⟨q1, q2⟩) (fail)
    clear q1 q2
    have H5' := H5.drew
    have P5' := P5.drew
    have J5' := J5.drew
    have L5' := L5.drew
    have G5' : But g w w5.drew := ⟨G5.os, G5.tape, G5.output, G5.size, G5.block⟩
    have z5' : w4.heap.size ≤ w5.drew.heap.size := z5
    clear H5 P5 J5 L5 G5 z5
    generalize w5.drew = w5' at H5' P5' J5' L5' G5' z5' ⊢
    rename_i w5old
    have H5 := H5'
    have P5 := P5'
    have J5 := J5'
    have L5 := L5'
    have G5 := G5'
    have z5 := z5'
    clear H5' P5' J5' L5' G5' z5'
    go_wp2_with fail
    have q1 := P5.cell (i := 12) rfl
    have q2 := H5.cell (i := 5) rfl
    go_region_held3 (fun w' => w'.cell? ⟨w.heap.size, 12, none⟩ = some (.int .u64 xmt) ∧ w'.cell? ⟨g, 5, none⟩ = some (.int .u64 lx)) (exact ⟨q1, q2⟩) (fail)
    have H5' := H5.drew
    have P5' := P5.drew
    have J5' := J5.drew
    have L5' := L5.drew
    have G5' : But g w w5'.drew := ⟨G5.os, G5.tape, G5.output, G5.size, G5.block⟩
    have z5' : w4.heap.size ≤ w5'.drew.heap.size := z5
    clear H5 P5 J5 L5 G5 z5
    generalize w5'.drew = w5'' at H5' P5' J5' L5' G5' z5' ⊢
    have H5 := H5'
    have P5 := P5'
    have J5 := J5'
    have L5 := L5'
    have G5 := G5'
    have z5 := z5'
    clear H5' P5' J5' L5' G5' z5'
    clear q1 q2
    go_wp2_with (first | ((refine wpl_storeg (by rfl) 3 _ _ (by rfl) w2.heap.size 0 (by rfl) (.int .i64 3) (by rfl) (by rfl) (by simp [Value.oneCell']) _ _ (hdL 3 ⟨#[]⟩ 0 0 0 0) L5 (by simp) sizeI64 (by rfl) ?_; intro w6 L6 s6 g6); (have H6 := H5.but g6 (by omega)); (have J6 := J5.but g6 (by omega))))
    have G6 : But g w w6 := G5.new g6 (by omega)
    clear H5 L5 J5 P5 G5 g6
    have q1 := L6.cell (i := 0) rfl
    have q2 := H6.cell (i := 9) rfl
    have q3 := H6.frozen
    have B7 : But g w (w6.setCell ⟨g, 9, none⟩ (.int .i64 (c3 + 1))).drew := But.trans G6 ⟨rfl, rfl, rfl, by simp [World.setCell, World.drew], fun k _ hk => Below.heap_setCell _ _ _ _ (fun e => hk (by rw [e]))⟩
    have H7 : Blk (w6.setCell ⟨g, 9, none⟩ (.int .i64 (c3 + 1))).drew g 59 (raL ver false true t1 nc lx c0 c1 c2 (c3 + 1) c4 c5 c6 c7) := (H6.set 9 (.int .i64 (c3 + 1))).drew
    have L7 : Blk (w6.setCell ⟨g, 9, none⟩ (.int .i64 (c3 + 1))).drew w2.heap.size 40 (hdL 3 ⟨#[]⟩ 0 0 0 0) := (L6.but (but_setCell w6 g 9 _) (by omega)).drew
    have J7 : Blk (w6.setCell ⟨g, 9, none⟩ (.int .i64 (c3 + 1))).drew w1.heap.size 40 zH := (J6.but (but_setCell w6 g 9 _) (by omega)).drew
    clear H6 L6 J6 G6
    go_region
    all_goals
      generalize (w6.setCell ⟨g, 9, none⟩ (.int .i64 (c3 + 1))).drew = w7 at H7 L7 J7 B7 ⊢
      clear q1 q2 q3
      go_wp2_with (first
        | (refine wpl_load (by rfl) 40 _ (by rfl) w2.heap.size (by rfl) 40 _ L7 _ Try.underlying40 rfl _ sizeHeard (by rfl) ?_)
        | (refine wpl_store (by rfl) 40 _ _ (by rfl) w1.heap.size (by rfl) _ (by rfl) _ rfl 40 _ J7 (by rfl) _ sizeHeard (by rfl) (by simp [Value.oneCell']) ?_; intro w8 J8 s8 g8))
      obtain ⟨k0, k1, k2, k3, k4, k5⟩ := cells6 J8
      refine bodyPost_ret (v := .agg (hdL 3 ⟨#[]⟩ 0 0 0 0).toArray) (by simp [results, Try.results15, go_sem, k0, k1, k2, k3, k4, k5]) rfl ?_
      exact ⟨rfl, H7.but g8 (by omega), B7.new g8 (by omega)⟩
  · skip
    go_enter Try.func15, Try.ntmps15
    go_wp2_with (first
      | (refine wpl_alloc (by rfl) 40 (by rfl) (.agg (zH).toArray) (zH) zeroHeard rfl ?_; intro w3 L3 s3 b3; (have H3 := H2.below b3 (by omega)); (have J3 := J2.below b3 (by omega)); (have P3 := P2.below b3 (by omega)))
      | ((refine wpl_box (by rfl) 31 _ (by rfl) _ ([.int .i64 l, .int .i64 v, .int .i64 m, .int .i64 st, .int .i64 po, .int .i64 pr, .int .u32 rd, .int .u32 rp, .int .u32 id, .int .u64 ref, .int .u64 org, .int .u64 rec, .int .u64 xmt]) (by rfl) rfl ?_; intro w1 P1 s1 b1); (have H1 := H.below b1 hlt))
      | ((refine wpl_alloc (by rfl) 40 (by rfl) (.agg (zH).toArray) (zH) zeroHeard rfl ?_; intro w2 J2 s2 b2); (have H2 := H1.below b2 (by omega)); (have P2 := P1.below b2 (by omega)))
      | ((refine wpl_store (by rfl) 40 _ _ (by rfl) w2.heap.size (by rfl) _ (by rfl) _ rfl 40 _ L3 (by rfl) _ sizeHeard (by rfl) (by simp [Value.oneCell']) ?_; intro w4 L4 s4 g4); (have H4 := H3.but g4 (by omega)); (have J4 := J3.but g4 (by omega)); (have P4 := P3.but g4 (by omega)))
      | (refine wpl_load (by rfl) 31 _ (by rfl) w.heap.size (by rfl) 31 _ P4 _ Try.underlying31 rfl _ sizeNtp (by rfl) ?_)
      | (go_at_call 29; ((with_reducible refine (hC _).mono ?_); rintro e w5 ⟨rfl, b5⟩; (have H5 := H4.below b5 (by omega)); (have P5 := P4.below b5 (by omega)); (have J5 := J4.below b5 (by omega)); (have L5 := L4.below b5 (by omega)); (have z5 := b5.size)))
      | (go_at_call 26; ((with_reducible refine (hr _).mono ?_); rintro e w1 ⟨rfl, rfl⟩))
      | (refine wpl_loadf (by rfl) 3 _ (by rfl) w.heap.size 2 (by rfl) _ _ P5 _ rfl _ Try.underlying3 rfl ?_) | (refine wpl_loadf (by rfl) 4 _ (by rfl) g 1 (by rfl) _ _ H5 _ rfl _ Try.underlying4 rfl ?_) | (refine wpl_loadf (by rfl) 3 _ (by rfl) g 3 (by rfl) _ _ H5 _ rfl _ Try.underlying3 rfl ?_) | (refine wpl_loadf (by rfl) 4 _ (by rfl) g 2 (by rfl) _ _ H5 _ rfl _ Try.underlying4 rfl ?_)
      )
    have G5 : But g w w5 := ((((But.of_below b1 (Nat.le_refl _)).then b2 (by omega)).then b3 (by omega)).new g4 (by omega)).then b5 (by omega)
    clear P1 J2 H1 H2 P2 H3 J3 L3 P3 H4 J4 P4 L4 b1 b2 b3 g4 b5
    have q1 := P5.cell (i := 10) rfl
    have q2 := H5.cell (i := 4) rfl
    go_region_held3 (fun w' => w'.cell? ⟨w.heap.size, 10, none⟩ = some (.int .u64 org) ∧ w'.cell? ⟨g, 4, none⟩ = some (.int .u64 nc)) (exact ⟨q1, q2⟩) (fail)
    clear q1 q2
    have H5' := H5.drew
    have P5' := P5.drew
    have J5' := J5.drew
    have L5' := L5.drew
    have G5' : But g w w5.drew := ⟨G5.os, G5.tape, G5.output, G5.size, G5.block⟩
    have z5' : w4.heap.size ≤ w5.drew.heap.size := z5
    clear H5 P5 J5 L5 G5 z5
    generalize w5.drew = w5' at H5' P5' J5' L5' G5' z5' ⊢
    rename_i w5old
    have H5 := H5'
    have P5 := P5'
    have J5 := J5'
    have L5 := L5'
    have G5 := G5'
    have z5 := z5'
    clear H5' P5' J5' L5' G5' z5'
    go_wp2_with fail
    have q1 := P5.cell (i := 12) rfl
    have q2 := H5.cell (i := 5) rfl
    go_region_held3 (fun w' => w'.cell? ⟨w.heap.size, 12, none⟩ = some (.int .u64 xmt) ∧ w'.cell? ⟨g, 5, none⟩ = some (.int .u64 lx)) (exact ⟨q1, q2⟩) (fail)
    have H5' := H5.drew
    have P5' := P5.drew
    have J5' := J5.drew
    have L5' := L5.drew
    have G5' : But g w w5'.drew := ⟨G5.os, G5.tape, G5.output, G5.size, G5.block⟩
    have z5' : w4.heap.size ≤ w5'.drew.heap.size := z5
    clear H5 P5 J5 L5 G5 z5
    generalize w5'.drew = w5'' at H5' P5' J5' L5' G5' z5' ⊢
    have H5 := H5'
    have P5 := P5'
    have J5 := J5'
    have L5 := L5'
    have G5 := G5'
    have z5 := z5'
    clear H5' P5' J5' L5' G5' z5'
    clear q1 q2
    go_wp2_with (first | ((refine wpl_storeg (by rfl) 3 _ _ (by rfl) w2.heap.size 0 (by rfl) (.int .i64 3) (by rfl) (by rfl) (by simp [Value.oneCell']) _ _ (hdL 3 ⟨#[]⟩ 0 0 0 0) L5 (by simp) sizeI64 (by rfl) ?_; intro w6 L6 s6 g6); (have H6 := H5.but g6 (by omega)); (have J6 := J5.but g6 (by omega))))
    have G6 : But g w w6 := G5.new g6 (by omega)
    clear H5 L5 J5 P5 G5 g6
    have q1 := L6.cell (i := 0) rfl
    have q2 := H6.cell (i := 9) rfl
    have q3 := H6.frozen
    have B7 : But g w (w6.setCell ⟨g, 9, none⟩ (.int .i64 (c3 + 1))).drew := But.trans G6 ⟨rfl, rfl, rfl, by simp [World.setCell, World.drew], fun k _ hk => Below.heap_setCell _ _ _ _ (fun e => hk (by rw [e]))⟩
    have H7 : Blk (w6.setCell ⟨g, 9, none⟩ (.int .i64 (c3 + 1))).drew g 59 (raL ver true true t1 nc lx c0 c1 c2 (c3 + 1) c4 c5 c6 c7) := (H6.set 9 (.int .i64 (c3 + 1))).drew
    have L7 : Blk (w6.setCell ⟨g, 9, none⟩ (.int .i64 (c3 + 1))).drew w2.heap.size 40 (hdL 3 ⟨#[]⟩ 0 0 0 0) := (L6.but (but_setCell w6 g 9 _) (by omega)).drew
    have J7 : Blk (w6.setCell ⟨g, 9, none⟩ (.int .i64 (c3 + 1))).drew w1.heap.size 40 zH := (J6.but (but_setCell w6 g 9 _) (by omega)).drew
    clear H6 L6 J6 G6
    go_region
    all_goals
      generalize (w6.setCell ⟨g, 9, none⟩ (.int .i64 (c3 + 1))).drew = w7 at H7 L7 J7 B7 ⊢
      clear q1 q2 q3
      go_wp2_with (first
        | (refine wpl_load (by rfl) 40 _ (by rfl) w2.heap.size (by rfl) 40 _ L7 _ Try.underlying40 rfl _ sizeHeard (by rfl) ?_)
        | (refine wpl_store (by rfl) 40 _ _ (by rfl) w1.heap.size (by rfl) _ (by rfl) _ rfl 40 _ J7 (by rfl) _ sizeHeard (by rfl) (by simp [Value.oneCell']) ?_; intro w8 J8 s8 g8))
      obtain ⟨k0, k1, k2, k3, k4, k5⟩ := cells6 J8
      refine bodyPost_ret (v := .agg (hdL 3 ⟨#[]⟩ 0 0 0 0).toArray) (by simp [results, Try.results15, go_sem, k0, k1, k2, k3, k4, k5]) rfl ?_
      exact ⟨rfl, H7.but g8 (by omega), B7.new g8 (by omega)⟩
end Go.Proofs.Ytickoncgnjgciaa
