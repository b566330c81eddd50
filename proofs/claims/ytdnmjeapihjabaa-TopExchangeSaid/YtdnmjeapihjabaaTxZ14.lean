/- Associations: what accept computes. -/
import Derived.Test.YtdnmjeapihjabaaTxZ13
namespace Go.Proofs.Ytdnmjeapihjabaa
open Go.RowKit
set_option linter.unusedSimpArgs false
set_option linter.unusedVariables false
set_option maxRecDepth 100000
theorem ac_cases (st l id rec xmt now : Int) : (ksB st id = true ∧ acK st l id rec xmt now = 4) ∨ (ksB st id = false ∧ syncB l st = false ∧ acK st l id rec xmt now = 5) ∨
    (ksB st id = false ∧ syncB l st = true ∧ insB rec now = false ∧ acK st l id rec xmt now = 6) ∨ (ksB st id = false ∧ syncB l st = true ∧ insB rec now = true ∧ insB xmt now = false ∧ acK st l id rec xmt now = 6) ∨
    (ksB st id = false ∧ syncB l st = true ∧ insB rec now = true ∧ insB xmt now = true ∧ insV xmt now < insV rec now ∧ acK st l id rec xmt now = 6) ∨ (ksB st id = false ∧ syncB l st = true ∧ insB rec now = true ∧ insB xmt now = true ∧ insV rec now ≤ insV xmt now ∧ acK st l id rec xmt now = 7) := by
  unfold acK
  cases ksB st id <;> cases syncB l st <;> cases insB rec now <;> cases insB xmt now <;> by_cases h : insV xmt now < insV rec now <;> simp [h] <;> omega
theorem ksS_no {st id : Int} (h : ksB st id = false) : ksS st id = ⟨#[]⟩ := by unfold ksS; rw [h]; rfl
set_option maxRecDepth 100000 in
set_option maxHeartbeats 8000000 in
theorem accept_any (g : Nat) (ver t1 nc : Int) (pd : Bool) (lx c0 c1 c2 c3 c4 c5 c6 c7 now l v m st po pr rd rp id ref org rec xmt : Int) (w : World) (H : Blk w g 66 (asL ver t1 nc pd lx c0 c1 c2 c3 c4 c5 c6 c7)) (hid : 0 ≤ id ∧ id ≤ 4294967295) (hn : rdB now = true) :
    Calls Try.prog 37 #[.pointer (some ⟨g, 0, none⟩), ntp l v m st po pr rd rp id ref org rec xmt, .int .i64 now] w fun e w' => e = .returned (.agg (acH st l id rec xmt t1 now).toArray) ∧ Blk w' g 66 (asL ver t1 nc false xmt c0 c1 c2 c3 c4 c5 c6 c7) ∧ But g w w' := by
  have hC := fun W => kiss_any l v m st po pr rd rp id ref org rec xmt W hid
  have hY := fun W => synced_any l v m st po pr rd rp id ref org rec xmt W
  have hR := fun W => instant_any rec now W hn
  have hX := fun W => instant_any xmt now W hn
  have hlt := H.lt
  rcases ac_cases st l id rec xmt now with ⟨h1, h⟩ | ⟨h1, h2, h⟩ | ⟨h1, h2, h3, h⟩ | ⟨h1, h2, h3, h4, h⟩ | ⟨h1, h2, h3, h4, h5, h⟩ | ⟨h1, h2, h3, h4, h5, h⟩
  · rw [acH, h]
    simp only [h1] at hC
    clear h h1 hY hR hX
    generalize ksS st id = c at hC ⊢
    go_enter Try.func37, Try.ntmps37
    go_wp2_with (first
      | ((refine wpl_box (by rfl) 29 _ (by rfl) _ ([.int .i64 l, .int .i64 v, .int .i64 m, .int .i64 st, .int .i64 po, .int .i64 pr, .int .u32 rd, .int .u32 rp, .int .u32 id, .int .u64 ref, .int .u64 org, .int .u64 rec, .int .u64 xmt]) (by rfl) rfl ?_; intro w1 P1 s1 b1); (have H1 := H.below b1 hlt))
      | ((refine wpl_alloc (by rfl) 51 (by rfl) (.agg (zH).toArray) (zH) zeroHeard rfl ?_; intro w2 J2 s2 b2); (have H2 := H1.below b2 (by omega)); (have P2 := P1.below b2 (by omega)))
      | ((refine wpl_storeg (by rfl) 4 _ _ (by rfl) g 3 (by rfl) (.bool false) (by rfl) (by rfl) (by simp [Value.oneCell']) _ _ (asL ver t1 nc false lx c0 c1 c2 c3 c4 c5 c6 c7) H2 (by simp) sizeBool (by rfl) ?_; intro w3 H3 s3 g3); (have J3 := J2.but g3 (by omega)); (have P3 := P2.but g3 (by omega)))
      | (refine wpl_loadf (by rfl) 24 _ (by rfl) w.heap.size 12 (by rfl) _ _ P3 _ rfl _ Try.underlying24 rfl ?_)
      | ((refine wpl_storeg (by rfl) 24 _ _ (by rfl) g 4 (by rfl) (.int .u64 xmt) (by rfl) (by rfl) (by simp [Value.oneCell']) _ _ (asL ver t1 nc false xmt c0 c1 c2 c3 c4 c5 c6 c7) H3 (by simp) sizeU64 (by rfl) ?_; intro w4 H4 s4 g4); (have J4 := J3.but g4 (by omega)); (have P4 := P3.but g4 (by omega)))
      | (refine wpl_load (by rfl) 29 _ (by rfl) w.heap.size (by rfl) 29 _ P4 _ Try.underlying29 rfl _ sizeNtp (by rfl) ?_)
      | (go_at_call 57; ((with_reducible refine (hC _).mono ?_); rintro e w5 ⟨rfl, b5⟩; (have H5 := H4.below b5 (by omega)); (have P5 := P4.below b5 (by omega)); (have J5 := J4.below b5 (by omega)); (have z5 := b5.size)))
      | (refine wpl_load (by rfl) 29 _ (by rfl) w.heap.size (by rfl) 29 _ P5 _ Try.underlying29 rfl _ sizeNtp (by rfl) ?_)
      | (go_at_call 44; ((with_reducible refine (hY _).mono ?_); rintro e w6 ⟨rfl, b6⟩; (have H6 := H5.below b6 (by omega)); (have P6 := P5.below b6 (by omega)); (have J6 := J5.below b6 (by omega)); (have z6 := b6.size)))
      | (refine wpl_loadf (by rfl) 24 _ (by rfl) w.heap.size 11 (by rfl) _ _ P6 _ rfl _ Try.underlying24 rfl ?_)
      | (refine wpl_store (by rfl) 51 _ _ (by rfl) w1.heap.size (by rfl) _ (by rfl) _ rfl 51 _ J5 (by rfl) _ sizeHeard (by rfl) (by simp [Value.oneCell']) ?_; intro w9 J9 s9 g9))
    obtain ⟨k0, k1, k2, k3, k4, k5⟩ := cells6 J9
    refine bodyPost_ret (v := .agg (hdL 4 c 0 0 0 0).toArray) (by simp [results, Try.results37, go_sem, k0, k1, k2, k3, k4, k5]) rfl ?_
    exact ⟨rfl, H5.but g9 (by omega), ((((But.of_below b1 (Nat.le_refl _)).then b2 (by omega)).trans g3).trans g4).then b5 (by omega) |>.new g9 (by omega)⟩
  · rw [acH, h, ksS_no h1]
    simp only [h1, ksS_no h1] at hC
    simp only [h2] at hY
    clear h h1 h2 hR hX
    go_enter Try.func37, Try.ntmps37
    go_wp2_with (first
      | ((refine wpl_box (by rfl) 29 _ (by rfl) _ ([.int .i64 l, .int .i64 v, .int .i64 m, .int .i64 st, .int .i64 po, .int .i64 pr, .int .u32 rd, .int .u32 rp, .int .u32 id, .int .u64 ref, .int .u64 org, .int .u64 rec, .int .u64 xmt]) (by rfl) rfl ?_; intro w1 P1 s1 b1); (have H1 := H.below b1 hlt))
      | ((refine wpl_alloc (by rfl) 51 (by rfl) (.agg (zH).toArray) (zH) zeroHeard rfl ?_; intro w2 J2 s2 b2); (have H2 := H1.below b2 (by omega)); (have P2 := P1.below b2 (by omega)))
      | ((refine wpl_storeg (by rfl) 4 _ _ (by rfl) g 3 (by rfl) (.bool false) (by rfl) (by rfl) (by simp [Value.oneCell']) _ _ (asL ver t1 nc false lx c0 c1 c2 c3 c4 c5 c6 c7) H2 (by simp) sizeBool (by rfl) ?_; intro w3 H3 s3 g3); (have J3 := J2.but g3 (by omega)); (have P3 := P2.but g3 (by omega)))
      | (refine wpl_loadf (by rfl) 24 _ (by rfl) w.heap.size 12 (by rfl) _ _ P3 _ rfl _ Try.underlying24 rfl ?_)
      | ((refine wpl_storeg (by rfl) 24 _ _ (by rfl) g 4 (by rfl) (.int .u64 xmt) (by rfl) (by rfl) (by simp [Value.oneCell']) _ _ (asL ver t1 nc false xmt c0 c1 c2 c3 c4 c5 c6 c7) H3 (by simp) sizeU64 (by rfl) ?_; intro w4 H4 s4 g4); (have J4 := J3.but g4 (by omega)); (have P4 := P3.but g4 (by omega)))
      | (refine wpl_load (by rfl) 29 _ (by rfl) w.heap.size (by rfl) 29 _ P4 _ Try.underlying29 rfl _ sizeNtp (by rfl) ?_)
      | (go_at_call 57; ((with_reducible refine (hC _).mono ?_); rintro e w5 ⟨rfl, b5⟩; (have H5 := H4.below b5 (by omega)); (have P5 := P4.below b5 (by omega)); (have J5 := J4.below b5 (by omega)); (have z5 := b5.size)))
      | (refine wpl_load (by rfl) 29 _ (by rfl) w.heap.size (by rfl) 29 _ P5 _ Try.underlying29 rfl _ sizeNtp (by rfl) ?_)
      | (go_at_call 44; ((with_reducible refine (hY _).mono ?_); rintro e w6 ⟨rfl, b6⟩; (have H6 := H5.below b6 (by omega)); (have P6 := P5.below b6 (by omega)); (have J6 := J5.below b6 (by omega)); (have z6 := b6.size)))
      | (refine wpl_loadf (by rfl) 24 _ (by rfl) w.heap.size 11 (by rfl) _ _ P6 _ rfl _ Try.underlying24 rfl ?_)
      | (refine wpl_store (by rfl) 51 _ _ (by rfl) w1.heap.size (by rfl) _ (by rfl) _ rfl 51 _ J6 (by rfl) _ sizeHeard (by rfl) (by simp [Value.oneCell']) ?_; intro w9 J9 s9 g9))
    obtain ⟨k0, k1, k2, k3, k4, k5⟩ := cells6 J9
    refine bodyPost_ret (v := .agg (hdL 5 ⟨#[]⟩ 0 0 0 0).toArray) (by simp [results, Try.results37, go_sem, k0, k1, k2, k3, k4, k5]) rfl ?_
    exact ⟨rfl, H6.but g9 (by omega), (((((But.of_below b1 (Nat.le_refl _)).then b2 (by omega)).trans g3).trans g4).then b5 (by omega)).then b6 (by omega) |>.new g9 (by omega)⟩
  · rw [acH, h, ksS_no h1]
    simp only [h1, ksS_no h1] at hC
    simp only [h2] at hY
    simp only [h3] at hR
    clear h h1 h2 h3
    go_enter Try.func37, Try.ntmps37
    go_wp2_with (first
      | ((refine wpl_box (by rfl) 29 _ (by rfl) _ ([.int .i64 l, .int .i64 v, .int .i64 m, .int .i64 st, .int .i64 po, .int .i64 pr, .int .u32 rd, .int .u32 rp, .int .u32 id, .int .u64 ref, .int .u64 org, .int .u64 rec, .int .u64 xmt]) (by rfl) rfl ?_; intro w1 P1 s1 b1); (have H1 := H.below b1 hlt))
      | ((refine wpl_alloc (by rfl) 51 (by rfl) (.agg (zH).toArray) (zH) zeroHeard rfl ?_; intro w2 J2 s2 b2); (have H2 := H1.below b2 (by omega)); (have P2 := P1.below b2 (by omega)))
      | ((refine wpl_storeg (by rfl) 4 _ _ (by rfl) g 3 (by rfl) (.bool false) (by rfl) (by rfl) (by simp [Value.oneCell']) _ _ (asL ver t1 nc false lx c0 c1 c2 c3 c4 c5 c6 c7) H2 (by simp) sizeBool (by rfl) ?_; intro w3 H3 s3 g3); (have J3 := J2.but g3 (by omega)); (have P3 := P2.but g3 (by omega)))
      | (refine wpl_loadf (by rfl) 24 _ (by rfl) w.heap.size 12 (by rfl) _ _ P3 _ rfl _ Try.underlying24 rfl ?_)
      | ((refine wpl_storeg (by rfl) 24 _ _ (by rfl) g 4 (by rfl) (.int .u64 xmt) (by rfl) (by rfl) (by simp [Value.oneCell']) _ _ (asL ver t1 nc false xmt c0 c1 c2 c3 c4 c5 c6 c7) H3 (by simp) sizeU64 (by rfl) ?_; intro w4 H4 s4 g4); (have J4 := J3.but g4 (by omega)); (have P4 := P3.but g4 (by omega)))
      | (refine wpl_load (by rfl) 29 _ (by rfl) w.heap.size (by rfl) 29 _ P4 _ Try.underlying29 rfl _ sizeNtp (by rfl) ?_)
      | (go_at_call 57; ((with_reducible refine (hC _).mono ?_); rintro e w5 ⟨rfl, b5⟩; (have H5 := H4.below b5 (by omega)); (have P5 := P4.below b5 (by omega)); (have J5 := J4.below b5 (by omega)); (have z5 := b5.size)))
      | (refine wpl_load (by rfl) 29 _ (by rfl) w.heap.size (by rfl) 29 _ P5 _ Try.underlying29 rfl _ sizeNtp (by rfl) ?_)
      | (go_at_call 44; ((with_reducible refine (hY _).mono ?_); rintro e w6 ⟨rfl, b6⟩; (have H6 := H5.below b6 (by omega)); (have P6 := P5.below b6 (by omega)); (have J6 := J5.below b6 (by omega)); (have z6 := b6.size)))
      | (refine wpl_loadf (by rfl) 24 _ (by rfl) w.heap.size 11 (by rfl) _ _ P6 _ rfl _ Try.underlying24 rfl ?_)
      | (go_at_call 58; ((with_reducible refine (hR _).mono ?_); rintro e w7 ⟨rfl, b7⟩; (have H7 := H6.below b7 (by omega)); (have P7 := P6.below b7 (by omega)); (have J7 := J6.below b7 (by omega)); (have z7 := b7.size)))
      | (refine wpl_loadf (by rfl) 24 _ (by rfl) w.heap.size 12 (by rfl) _ _ P7 _ rfl _ Try.underlying24 rfl ?_)
      | (go_at_call 58; ((with_reducible refine (hX _).mono ?_); rintro e w8 ⟨rfl, b8⟩; (have H8 := H7.below b8 (by omega)); (have J8 := J7.below b8 (by omega)); (have z8 := b8.size)))
      | (refine wpl_loadf (by rfl) 3 _ (by rfl) g 1 (by rfl) _ _ H8 _ rfl _ Try.underlying3 rfl ?_)
      | (refine wpl_store (by rfl) 51 _ _ (by rfl) w1.heap.size (by rfl) _ (by rfl) _ rfl 51 _ J8 (by rfl) _ sizeHeard (by rfl) (by simp [Value.oneCell']) ?_; intro w9 J9 s9 g9))
    obtain ⟨k0, k1, k2, k3, k4, k5⟩ := cells6 J9
    refine bodyPost_ret (v := .agg (hdL 6 ⟨#[]⟩ 0 0 0 0).toArray) (by simp [results, Try.results37, go_sem, k0, k1, k2, k3, k4, k5]) rfl ?_
    exact ⟨rfl, H8.but g9 (by omega), (((((((But.of_below b1 (Nat.le_refl _)).then b2 (by omega)).trans g3).trans g4).then b5 (by omega)).then b6 (by omega)).then b7 (by omega)).then b8 (by omega) |>.new g9 (by omega)⟩
  · rw [acH, h, ksS_no h1]
    simp only [h1, ksS_no h1] at hC
    simp only [h2] at hY
    simp only [h3] at hR
    simp only [h4] at hX
    clear h h1 h2 h3 h4
    go_enter Try.func37, Try.ntmps37
    go_wp2_with (first
      | ((refine wpl_box (by rfl) 29 _ (by rfl) _ ([.int .i64 l, .int .i64 v, .int .i64 m, .int .i64 st, .int .i64 po, .int .i64 pr, .int .u32 rd, .int .u32 rp, .int .u32 id, .int .u64 ref, .int .u64 org, .int .u64 rec, .int .u64 xmt]) (by rfl) rfl ?_; intro w1 P1 s1 b1); (have H1 := H.below b1 hlt))
      | ((refine wpl_alloc (by rfl) 51 (by rfl) (.agg (zH).toArray) (zH) zeroHeard rfl ?_; intro w2 J2 s2 b2); (have H2 := H1.below b2 (by omega)); (have P2 := P1.below b2 (by omega)))
      | ((refine wpl_storeg (by rfl) 4 _ _ (by rfl) g 3 (by rfl) (.bool false) (by rfl) (by rfl) (by simp [Value.oneCell']) _ _ (asL ver t1 nc false lx c0 c1 c2 c3 c4 c5 c6 c7) H2 (by simp) sizeBool (by rfl) ?_; intro w3 H3 s3 g3); (have J3 := J2.but g3 (by omega)); (have P3 := P2.but g3 (by omega)))
      | (refine wpl_loadf (by rfl) 24 _ (by rfl) w.heap.size 12 (by rfl) _ _ P3 _ rfl _ Try.underlying24 rfl ?_)
      | ((refine wpl_storeg (by rfl) 24 _ _ (by rfl) g 4 (by rfl) (.int .u64 xmt) (by rfl) (by rfl) (by simp [Value.oneCell']) _ _ (asL ver t1 nc false xmt c0 c1 c2 c3 c4 c5 c6 c7) H3 (by simp) sizeU64 (by rfl) ?_; intro w4 H4 s4 g4); (have J4 := J3.but g4 (by omega)); (have P4 := P3.but g4 (by omega)))
      | (refine wpl_load (by rfl) 29 _ (by rfl) w.heap.size (by rfl) 29 _ P4 _ Try.underlying29 rfl _ sizeNtp (by rfl) ?_)
      | (go_at_call 57; ((with_reducible refine (hC _).mono ?_); rintro e w5 ⟨rfl, b5⟩; (have H5 := H4.below b5 (by omega)); (have P5 := P4.below b5 (by omega)); (have J5 := J4.below b5 (by omega)); (have z5 := b5.size)))
      | (refine wpl_load (by rfl) 29 _ (by rfl) w.heap.size (by rfl) 29 _ P5 _ Try.underlying29 rfl _ sizeNtp (by rfl) ?_)
      | (go_at_call 44; ((with_reducible refine (hY _).mono ?_); rintro e w6 ⟨rfl, b6⟩; (have H6 := H5.below b6 (by omega)); (have P6 := P5.below b6 (by omega)); (have J6 := J5.below b6 (by omega)); (have z6 := b6.size)))
      | (refine wpl_loadf (by rfl) 24 _ (by rfl) w.heap.size 11 (by rfl) _ _ P6 _ rfl _ Try.underlying24 rfl ?_)
      | (go_at_call 58; ((with_reducible refine (hR _).mono ?_); rintro e w7 ⟨rfl, b7⟩; (have H7 := H6.below b7 (by omega)); (have P7 := P6.below b7 (by omega)); (have J7 := J6.below b7 (by omega)); (have z7 := b7.size)))
      | (refine wpl_loadf (by rfl) 24 _ (by rfl) w.heap.size 12 (by rfl) _ _ P7 _ rfl _ Try.underlying24 rfl ?_)
      | (go_at_call 58; ((with_reducible refine (hX _).mono ?_); rintro e w8 ⟨rfl, b8⟩; (have H8 := H7.below b8 (by omega)); (have J8 := J7.below b8 (by omega)); (have z8 := b8.size)))
      | (refine wpl_loadf (by rfl) 3 _ (by rfl) g 1 (by rfl) _ _ H8 _ rfl _ Try.underlying3 rfl ?_)
      | (refine wpl_store (by rfl) 51 _ _ (by rfl) w1.heap.size (by rfl) _ (by rfl) _ rfl 51 _ J8 (by rfl) _ sizeHeard (by rfl) (by simp [Value.oneCell']) ?_; intro w9 J9 s9 g9))
    obtain ⟨k0, k1, k2, k3, k4, k5⟩ := cells6 J9
    refine bodyPost_ret (v := .agg (hdL 6 ⟨#[]⟩ 0 0 0 0).toArray) (by simp [results, Try.results37, go_sem, k0, k1, k2, k3, k4, k5]) rfl ?_
    exact ⟨rfl, H8.but g9 (by omega), (((((((But.of_below b1 (Nat.le_refl _)).then b2 (by omega)).trans g3).trans g4).then b5 (by omega)).then b6 (by omega)).then b7 (by omega)).then b8 (by omega) |>.new g9 (by omega)⟩
  · rw [acH, h, ksS_no h1]
    simp only [h1, ksS_no h1] at hC
    simp only [h2] at hY
    simp only [h3] at hR
    simp only [h4] at hX
    clear h h1 h2 h3 h4
    go_enter Try.func37, Try.ntmps37
    go_wp2_with (first
      | ((refine wpl_box (by rfl) 29 _ (by rfl) _ ([.int .i64 l, .int .i64 v, .int .i64 m, .int .i64 st, .int .i64 po, .int .i64 pr, .int .u32 rd, .int .u32 rp, .int .u32 id, .int .u64 ref, .int .u64 org, .int .u64 rec, .int .u64 xmt]) (by rfl) rfl ?_; intro w1 P1 s1 b1); (have H1 := H.below b1 hlt))
      | ((refine wpl_alloc (by rfl) 51 (by rfl) (.agg (zH).toArray) (zH) zeroHeard rfl ?_; intro w2 J2 s2 b2); (have H2 := H1.below b2 (by omega)); (have P2 := P1.below b2 (by omega)))
      | ((refine wpl_storeg (by rfl) 4 _ _ (by rfl) g 3 (by rfl) (.bool false) (by rfl) (by rfl) (by simp [Value.oneCell']) _ _ (asL ver t1 nc false lx c0 c1 c2 c3 c4 c5 c6 c7) H2 (by simp) sizeBool (by rfl) ?_; intro w3 H3 s3 g3); (have J3 := J2.but g3 (by omega)); (have P3 := P2.but g3 (by omega)))
      | (refine wpl_loadf (by rfl) 24 _ (by rfl) w.heap.size 12 (by rfl) _ _ P3 _ rfl _ Try.underlying24 rfl ?_)
      | ((refine wpl_storeg (by rfl) 24 _ _ (by rfl) g 4 (by rfl) (.int .u64 xmt) (by rfl) (by rfl) (by simp [Value.oneCell']) _ _ (asL ver t1 nc false xmt c0 c1 c2 c3 c4 c5 c6 c7) H3 (by simp) sizeU64 (by rfl) ?_; intro w4 H4 s4 g4); (have J4 := J3.but g4 (by omega)); (have P4 := P3.but g4 (by omega)))
      | (refine wpl_load (by rfl) 29 _ (by rfl) w.heap.size (by rfl) 29 _ P4 _ Try.underlying29 rfl _ sizeNtp (by rfl) ?_)
      | (go_at_call 57; ((with_reducible refine (hC _).mono ?_); rintro e w5 ⟨rfl, b5⟩; (have H5 := H4.below b5 (by omega)); (have P5 := P4.below b5 (by omega)); (have J5 := J4.below b5 (by omega)); (have z5 := b5.size)))
      | (refine wpl_load (by rfl) 29 _ (by rfl) w.heap.size (by rfl) 29 _ P5 _ Try.underlying29 rfl _ sizeNtp (by rfl) ?_)
      | (go_at_call 44; ((with_reducible refine (hY _).mono ?_); rintro e w6 ⟨rfl, b6⟩; (have H6 := H5.below b6 (by omega)); (have P6 := P5.below b6 (by omega)); (have J6 := J5.below b6 (by omega)); (have z6 := b6.size)))
      | (refine wpl_loadf (by rfl) 24 _ (by rfl) w.heap.size 11 (by rfl) _ _ P6 _ rfl _ Try.underlying24 rfl ?_)
      | (go_at_call 58; ((with_reducible refine (hR _).mono ?_); rintro e w7 ⟨rfl, b7⟩; (have H7 := H6.below b7 (by omega)); (have P7 := P6.below b7 (by omega)); (have J7 := J6.below b7 (by omega)); (have z7 := b7.size)))
      | (refine wpl_loadf (by rfl) 24 _ (by rfl) w.heap.size 12 (by rfl) _ _ P7 _ rfl _ Try.underlying24 rfl ?_)
      | (go_at_call 58; ((with_reducible refine (hX _).mono ?_); rintro e w8 ⟨rfl, b8⟩; (have H8 := H7.below b8 (by omega)); (have J8 := J7.below b8 (by omega)); (have z8 := b8.size)))
      | (refine wpl_loadf (by rfl) 3 _ (by rfl) g 1 (by rfl) _ _ H8 _ rfl _ Try.underlying3 rfl ?_)
      | (refine wpl_store (by rfl) 51 _ _ (by rfl) w1.heap.size (by rfl) _ (by rfl) _ rfl 51 _ J8 (by rfl) _ sizeHeard (by rfl) (by simp [Value.oneCell']) ?_; intro w9 J9 s9 g9))
    obtain ⟨k0, k1, k2, k3, k4, k5⟩ := cells6 J9
    refine bodyPost_ret (v := .agg (hdL 6 ⟨#[]⟩ 0 0 0 0).toArray) (by simp [results, Try.results37, go_sem, k0, k1, k2, k3, k4, k5]) rfl ?_
    exact ⟨rfl, H8.but g9 (by omega), (((((((But.of_below b1 (Nat.le_refl _)).then b2 (by omega)).trans g3).trans g4).then b5 (by omega)).then b6 (by omega)).then b7 (by omega)).then b8 (by omega) |>.new g9 (by omega)⟩
  · rw [acH, h, ksS_no h1]
    simp only [h1, ksS_no h1] at hC
    simp only [h2] at hY
    simp only [h3] at hR
    simp only [h4] at hX
    clear h h1 h2 h3 h4
    go_enter Try.func37, Try.ntmps37
    go_wp2_with (first
      | ((refine wpl_box (by rfl) 29 _ (by rfl) _ ([.int .i64 l, .int .i64 v, .int .i64 m, .int .i64 st, .int .i64 po, .int .i64 pr, .int .u32 rd, .int .u32 rp, .int .u32 id, .int .u64 ref, .int .u64 org, .int .u64 rec, .int .u64 xmt]) (by rfl) rfl ?_; intro w1 P1 s1 b1); (have H1 := H.below b1 hlt))
      | ((refine wpl_alloc (by rfl) 51 (by rfl) (.agg (zH).toArray) (zH) zeroHeard rfl ?_; intro w2 J2 s2 b2); (have H2 := H1.below b2 (by omega)); (have P2 := P1.below b2 (by omega)))
      | ((refine wpl_storeg (by rfl) 4 _ _ (by rfl) g 3 (by rfl) (.bool false) (by rfl) (by rfl) (by simp [Value.oneCell']) _ _ (asL ver t1 nc false lx c0 c1 c2 c3 c4 c5 c6 c7) H2 (by simp) sizeBool (by rfl) ?_; intro w3 H3 s3 g3); (have J3 := J2.but g3 (by omega)); (have P3 := P2.but g3 (by omega)))
      | (refine wpl_loadf (by rfl) 24 _ (by rfl) w.heap.size 12 (by rfl) _ _ P3 _ rfl _ Try.underlying24 rfl ?_)
      | ((refine wpl_storeg (by rfl) 24 _ _ (by rfl) g 4 (by rfl) (.int .u64 xmt) (by rfl) (by rfl) (by simp [Value.oneCell']) _ _ (asL ver t1 nc false xmt c0 c1 c2 c3 c4 c5 c6 c7) H3 (by simp) sizeU64 (by rfl) ?_; intro w4 H4 s4 g4); (have J4 := J3.but g4 (by omega)); (have P4 := P3.but g4 (by omega)))
      | (refine wpl_load (by rfl) 29 _ (by rfl) w.heap.size (by rfl) 29 _ P4 _ Try.underlying29 rfl _ sizeNtp (by rfl) ?_)
      | (go_at_call 57; ((with_reducible refine (hC _).mono ?_); rintro e w5 ⟨rfl, b5⟩; (have H5 := H4.below b5 (by omega)); (have P5 := P4.below b5 (by omega)); (have J5 := J4.below b5 (by omega)); (have z5 := b5.size)))
      | (refine wpl_load (by rfl) 29 _ (by rfl) w.heap.size (by rfl) 29 _ P5 _ Try.underlying29 rfl _ sizeNtp (by rfl) ?_)
      | (go_at_call 44; ((with_reducible refine (hY _).mono ?_); rintro e w6 ⟨rfl, b6⟩; (have H6 := H5.below b6 (by omega)); (have P6 := P5.below b6 (by omega)); (have J6 := J5.below b6 (by omega)); (have z6 := b6.size)))
      | (refine wpl_loadf (by rfl) 24 _ (by rfl) w.heap.size 11 (by rfl) _ _ P6 _ rfl _ Try.underlying24 rfl ?_)
      | (go_at_call 58; ((with_reducible refine (hR _).mono ?_); rintro e w7 ⟨rfl, b7⟩; (have H7 := H6.below b7 (by omega)); (have P7 := P6.below b7 (by omega)); (have J7 := J6.below b7 (by omega)); (have z7 := b7.size)))
      | (refine wpl_loadf (by rfl) 24 _ (by rfl) w.heap.size 12 (by rfl) _ _ P7 _ rfl _ Try.underlying24 rfl ?_)
      | (go_at_call 58; ((with_reducible refine (hX _).mono ?_); rintro e w8 ⟨rfl, b8⟩; (have H8 := H7.below b8 (by omega)); (have J8 := J7.below b8 (by omega)); (have z8 := b8.size)))
      | (refine wpl_loadf (by rfl) 3 _ (by rfl) g 1 (by rfl) _ _ H8 _ rfl _ Try.underlying3 rfl ?_)
      | (refine wpl_store (by rfl) 51 _ _ (by rfl) w1.heap.size (by rfl) _ (by rfl) _ rfl 51 _ J8 (by rfl) _ sizeHeard (by rfl) (by simp [Value.oneCell']) ?_; intro w9 J9 s9 g9))
    obtain ⟨k0, k1, k2, k3, k4, k5⟩ := cells6 J9
    refine bodyPost_ret (v := .agg (hdL 7 ⟨#[]⟩ t1 (insV rec now) (insV xmt now) now).toArray) (by simp [results, Try.results37, go_sem, k0, k1, k2, k3, k4, k5]) rfl ?_
    exact ⟨rfl, H8.but g9 (by omega), (((((((But.of_below b1 (Nat.le_refl _)).then b2 (by omega)).trans g3).trans g4).then b5 (by omega)).then b6 (by omega)).then b7 (by omega)).then b8 (by omega) |>.new g9 (by omega)⟩
end Go.Proofs.Ytdnmjeapihjabaa
