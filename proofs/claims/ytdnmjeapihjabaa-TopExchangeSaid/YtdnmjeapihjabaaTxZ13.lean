/- Associations: what refuse and accept compute. -/
import Derived.Test.YtdnmjeapihjabaaTxZ12
import Derived.BigQuiet
import Derived.Deep.QuietTactic
namespace Go.Proofs.Ytdnmjeapihjabaa
open Go.RowKit
set_option linter.unusedSimpArgs false
set_option linter.unusedVariables false
set_option maxRecDepth 100000
abbrev zH : List Value := [.int .i64 0, .string ⟨#[]⟩, .int .i64 0, .int .i64 0, .int .i64 0, .int .i64 0]
abbrev hdL (k : Int) (c : ByteArray) (a b d e : Int) : List Value := [.int .i64 k, .string c, .int .i64 a, .int .i64 b, .int .i64 d, .int .i64 e]
theorem zeroHeard : (Try.prog.info? 51).map (·.zero) = some (some (.agg zH.toArray)) := by kernel_rfl
theorem sizeHeard : (Try.prog.info? 51).map (·.size) = some 6 := by kernel_rfl
theorem cells6 {w : World} {g : Nat} {t : TypeId} {a0 a1 a2 a3 a4 a5 : Value} (h : Blk w g t [a0, a1, a2, a3, a4, a5]) :
    w.cell? ⟨g, 0, none⟩ = some a0 ∧ w.cell? ⟨g, 1, none⟩ = some a1 ∧ w.cell? ⟨g, 2, none⟩ = some a2 ∧ w.cell? ⟨g, 3, none⟩ = some a3 ∧ w.cell? ⟨g, 4, none⟩ = some a4 ∧ w.cell? ⟨g, 5, none⟩ = some a5 :=
  ⟨h.cell rfl, h.cell rfl, h.cell rfl, h.cell rfl, h.cell rfl, h.cell rfl⟩
/-- is a reply bad: K its Check, m its mode -/
def badB (K m now nc t1 : Int) : Bool := !decide (K = 0) || !decide (m = 4) || !rdB now || (!decide (nc = 0) && decide (now < t1))
/-- why a reply is refused; 9: it is not -/
def rfK (K m now nc t1 : Int) (pd : Bool) (org xmt lx : Int) : Int := if badB K m now nc t1 = true then 0 else if pd = false then 1 else if org ≠ nc then 2 else if xmt ≠ 0 ∧ xmt = lx then 3 else 9
def acK (st l id rec xmt now : Int) : Int := if ksB st id = true then 4 else if syncB l st = false then 5 else if insB rec now = true ∧ insB xmt now = true ∧ insV rec now ≤ insV xmt now then 7 else 6
/-- the outcome of an accepted reply -/
abbrev acH (st l id rec xmt t1 now : Int) : List Value := hdL (acK st l id rec xmt now) (ksS st id) (if acK st l id rec xmt now = 7 then t1 else 0) (if acK st l id rec xmt now = 7 then insV rec now else 0) (if acK st l id rec xmt now = 7 then insV xmt now else 0) (if acK st l id rec xmt now = 7 then now else 0)
theorem rf_cases (K m now nc t1 : Int) (pd : Bool) (org xmt lx : Int) : (badB K m now nc t1 = true ∧ rfK K m now nc t1 pd org xmt lx = 0) ∨ (badB K m now nc t1 = false ∧ pd = false ∧ rfK K m now nc t1 pd org xmt lx = 1) ∨
    (badB K m now nc t1 = false ∧ pd = true ∧ org ≠ nc ∧ rfK K m now nc t1 pd org xmt lx = 2) ∨ (badB K m now nc t1 = false ∧ pd = true ∧ org = nc ∧ xmt ≠ 0 ∧ xmt = lx ∧ rfK K m now nc t1 pd org xmt lx = 3) ∨
    (badB K m now nc t1 = false ∧ pd = true ∧ org = nc ∧ (xmt = 0 ∨ xmt ≠ lx) ∧ rfK K m now nc t1 pd org xmt lx = 9) := by
  unfold rfK
  cases badB K m now nc t1 <;> cases pd <;> by_cases h1 : org = nc <;> by_cases h2 : xmt = 0 <;> by_cases h3 : xmt = lx <;> simp [h1, h2, h3] <;> omega
theorem bad_cases (K m now nc t1 : Int) : (K ≠ 0 ∧ badB K m now nc t1 = true) ∨ (K = 0 ∧ m ≠ 4 ∧ badB K m now nc t1 = true) ∨ (K = 0 ∧ m = 4 ∧ rdB now = false ∧ badB K m now nc t1 = true) ∨
    (K = 0 ∧ m = 4 ∧ rdB now = true ∧ nc = 0 ∧ badB K m now nc t1 = false) ∨ (K = 0 ∧ m = 4 ∧ rdB now = true ∧ nc ≠ 0 ∧ now < t1 ∧ badB K m now nc t1 = true) ∨ (K = 0 ∧ m = 4 ∧ rdB now = true ∧ nc ≠ 0 ∧ ¬ now < t1 ∧ badB K m now nc t1 = false) := by
  unfold badB
  cases rdB now <;> by_cases h1 : K = 0 <;> by_cases h2 : m = 4 <;> by_cases h3 : nc = 0 <;> by_cases h4 : now < t1 <;> simp [h1, h2, h3, h4]
/-- the sent request is not the zero request -/
theorem sent_bool (t1 nc : Int) (h : nc = 0 → t1 = 0) : ∀ W : World, True := fun _ => trivial
set_option maxRecDepth 100000 in
set_option maxHeartbeats 4000000 in
theorem refuse_bad (g : Nat) (ver t1 nc : Int) (pd : Bool) (lx c0 c1 c2 c3 c4 c5 c6 c7 now l v m st po pr rd rp id ref org rec xmt : Int) (w : World) (H : Blk w g 66 (asL ver t1 nc pd lx c0 c1 c2 c3 c4 c5 c6 c7)) (hI : nc = 0 → t1 = 0) (hb : badB (nchk l v m st po pr) m now nc t1 = true) :
    Calls Try.prog 36 #[.pointer (some ⟨g, 0, none⟩), ntp l v m st po pr rd rp id ref org rec xmt, .int .i64 now] w fun e w' => e = .returned (.tuple #[.agg (hdL 0 ⟨#[]⟩ 0 0 0 0).toArray, .bool true]) ∧ Below w.heap.size w w' := by
  have hr := fun W => reading_any now W
  have hC := fun W => nchk_any l v m st po pr rd rp id ref org rec xmt W
  have hlt := H.lt
  obtain ⟨K, hK⟩ : ∃ K, K = nchk l v m st po pr := ⟨_, rfl⟩
  rw [← hK] at hb hC
  clear hK
  rcases bad_cases K m now nc t1 with ⟨h1, h⟩ | ⟨h1, h2, h⟩ | ⟨h1, h2, h3, h⟩ | ⟨h1, h2, h3, h4, h⟩ | ⟨h1, h2, h3, h4, h5, h⟩ | ⟨h1, h2, h3, h4, h5, h⟩
  · have h1' : (K != 0) = true := by simpa using h1
    clear h hb h1 hI
    go_enter Try.func36, Try.ntmps36
    go_wp2_with (first
      | ((refine wpl_box (by rfl) 29 _ (by rfl) _ ([.int .i64 l, .int .i64 v, .int .i64 m, .int .i64 st, .int .i64 po, .int .i64 pr, .int .u32 rd, .int .u32 rp, .int .u32 id, .int .u64 ref, .int .u64 org, .int .u64 rec, .int .u64 xmt]) (by rfl) rfl ?_; intro w1 P1 s1 b1); (have H1 := H.below b1 hlt))
      | ((refine wpl_alloc (by rfl) 51 (by rfl) (.agg (zH).toArray) (zH) zeroHeard rfl ?_; intro w2 J2 s2 b2); (have H2 := H1.below b2 (by omega)); (have P2 := P1.below b2 (by omega)))
      | (refine wpl_loadm (by rfl) 63 _ (by rfl) g 1 (by rfl) _ _ H2 _ _ Try.underlying63 rfl _ sizeReq (by rfl) (by rfl) ?_)
      | (refine wpl_load (by rfl) 29 _ (by rfl) w.heap.size (by rfl) 29 _ P2 _ Try.underlying29 rfl _ sizeNtp (by rfl) ?_)
      | (go_at_call 43; ((with_reducible refine (hC _).mono ?_); rintro e w3 ⟨rfl, b3⟩; (have H3 := H2.below b3 (by omega)); (have P3 := P2.below b3 (by omega)); (have J3 := J2.below b3 J2.lt)))
      | (go_at_call 18; ((with_reducible refine (hr _).mono ?_); rintro e w1 ⟨rfl, rfl⟩))
      | (refine wpl_loadf (by rfl) 3 _ (by rfl) w.heap.size 2 (by rfl) _ _ P3 _ rfl _ Try.underlying3 rfl ?_) | (refine wpl_loadf (by rfl) 3 _ (by rfl) g 1 (by rfl) _ _ H3 _ rfl _ Try.underlying3 rfl ?_) | (refine wpl_loadf (by rfl) 4 _ (by rfl) g 3 (by rfl) _ _ H3 _ rfl _ Try.underlying4 rfl ?_)
      | (refine wpl_store (by rfl) 51 _ _ (by rfl) w1.heap.size (by rfl) _ (by rfl) _ rfl 51 _ J3 (by rfl) _ sizeHeard (by rfl) (by simp [Value.oneCell']) ?_; intro w4 J4 s4 g4))
    all_goals
      obtain ⟨k0, k1, k2, k3, k4, k5⟩ := cells6 J4
      refine bodyPost_ret (v := .tuple #[.agg (hdL 0 ⟨#[]⟩ 0 0 0 0).toArray, .bool true]) (by simp [results, Try.results36, go_sem, k0, k1, k2, k3, k4, k5]) rfl ?_
      exact ⟨rfl, (b1.trans (b2.mono (by omega))).trans ((b3.mono (by have := b2.size; omega)).trans (g4.below (by have := b3.size; have := b2.size; omega) (by omega)))⟩
  · have h1' : (K != 0) = false := by simpa using h1
    have h2' : (m != 4) = true := by simpa using h2
    clear h hb h1 h2 hI
    go_enter Try.func36, Try.ntmps36
    go_wp2_with (first
      | ((refine wpl_box (by rfl) 29 _ (by rfl) _ ([.int .i64 l, .int .i64 v, .int .i64 m, .int .i64 st, .int .i64 po, .int .i64 pr, .int .u32 rd, .int .u32 rp, .int .u32 id, .int .u64 ref, .int .u64 org, .int .u64 rec, .int .u64 xmt]) (by rfl) rfl ?_; intro w1 P1 s1 b1); (have H1 := H.below b1 hlt))
      | ((refine wpl_alloc (by rfl) 51 (by rfl) (.agg (zH).toArray) (zH) zeroHeard rfl ?_; intro w2 J2 s2 b2); (have H2 := H1.below b2 (by omega)); (have P2 := P1.below b2 (by omega)))
      | (refine wpl_loadm (by rfl) 63 _ (by rfl) g 1 (by rfl) _ _ H2 _ _ Try.underlying63 rfl _ sizeReq (by rfl) (by rfl) ?_)
      | (refine wpl_load (by rfl) 29 _ (by rfl) w.heap.size (by rfl) 29 _ P2 _ Try.underlying29 rfl _ sizeNtp (by rfl) ?_)
      | (go_at_call 43; ((with_reducible refine (hC _).mono ?_); rintro e w3 ⟨rfl, b3⟩; (have H3 := H2.below b3 (by omega)); (have P3 := P2.below b3 (by omega)); (have J3 := J2.below b3 J2.lt)))
      | (go_at_call 18; ((with_reducible refine (hr _).mono ?_); rintro e w1 ⟨rfl, rfl⟩))
      | (refine wpl_loadf (by rfl) 3 _ (by rfl) w.heap.size 2 (by rfl) _ _ P3 _ rfl _ Try.underlying3 rfl ?_) | (refine wpl_loadf (by rfl) 3 _ (by rfl) g 1 (by rfl) _ _ H3 _ rfl _ Try.underlying3 rfl ?_) | (refine wpl_loadf (by rfl) 4 _ (by rfl) g 3 (by rfl) _ _ H3 _ rfl _ Try.underlying4 rfl ?_)
      | (refine wpl_store (by rfl) 51 _ _ (by rfl) w1.heap.size (by rfl) _ (by rfl) _ rfl 51 _ J3 (by rfl) _ sizeHeard (by rfl) (by simp [Value.oneCell']) ?_; intro w4 J4 s4 g4))
    all_goals
      obtain ⟨k0, k1, k2, k3, k4, k5⟩ := cells6 J4
      refine bodyPost_ret (v := .tuple #[.agg (hdL 0 ⟨#[]⟩ 0 0 0 0).toArray, .bool true]) (by simp [results, Try.results36, go_sem, k0, k1, k2, k3, k4, k5]) rfl ?_
      exact ⟨rfl, (b1.trans (b2.mono (by omega))).trans ((b3.mono (by have := b2.size; omega)).trans (g4.below (by have := b3.size; have := b2.size; omega) (by omega)))⟩
  · have h1' : (K != 0) = false := by simpa using h1
    have h2' : (m != 4) = false := by simpa using h2
    simp only [h3] at hr
    clear h hb h3 hI h1 h2
    go_enter Try.func36, Try.ntmps36
    go_wp2_with (first
      | ((refine wpl_box (by rfl) 29 _ (by rfl) _ ([.int .i64 l, .int .i64 v, .int .i64 m, .int .i64 st, .int .i64 po, .int .i64 pr, .int .u32 rd, .int .u32 rp, .int .u32 id, .int .u64 ref, .int .u64 org, .int .u64 rec, .int .u64 xmt]) (by rfl) rfl ?_; intro w1 P1 s1 b1); (have H1 := H.below b1 hlt))
      | ((refine wpl_alloc (by rfl) 51 (by rfl) (.agg (zH).toArray) (zH) zeroHeard rfl ?_; intro w2 J2 s2 b2); (have H2 := H1.below b2 (by omega)); (have P2 := P1.below b2 (by omega)))
      | (refine wpl_loadm (by rfl) 63 _ (by rfl) g 1 (by rfl) _ _ H2 _ _ Try.underlying63 rfl _ sizeReq (by rfl) (by rfl) ?_)
      | (refine wpl_load (by rfl) 29 _ (by rfl) w.heap.size (by rfl) 29 _ P2 _ Try.underlying29 rfl _ sizeNtp (by rfl) ?_)
      | (go_at_call 43; ((with_reducible refine (hC _).mono ?_); rintro e w3 ⟨rfl, b3⟩; (have H3 := H2.below b3 (by omega)); (have P3 := P2.below b3 (by omega)); (have J3 := J2.below b3 J2.lt)))
      | (go_at_call 18; ((with_reducible refine (hr _).mono ?_); rintro e w1 ⟨rfl, rfl⟩))
      | (refine wpl_loadf (by rfl) 3 _ (by rfl) w.heap.size 2 (by rfl) _ _ P3 _ rfl _ Try.underlying3 rfl ?_) | (refine wpl_loadf (by rfl) 3 _ (by rfl) g 1 (by rfl) _ _ H3 _ rfl _ Try.underlying3 rfl ?_) | (refine wpl_loadf (by rfl) 4 _ (by rfl) g 3 (by rfl) _ _ H3 _ rfl _ Try.underlying4 rfl ?_)
      | (refine wpl_store (by rfl) 51 _ _ (by rfl) w1.heap.size (by rfl) _ (by rfl) _ rfl 51 _ J3 (by rfl) _ sizeHeard (by rfl) (by simp [Value.oneCell']) ?_; intro w4 J4 s4 g4))
    all_goals
      obtain ⟨k0, k1, k2, k3, k4, k5⟩ := cells6 J4
      refine bodyPost_ret (v := .tuple #[.agg (hdL 0 ⟨#[]⟩ 0 0 0 0).toArray, .bool true]) (by simp [results, Try.results36, go_sem, k0, k1, k2, k3, k4, k5]) rfl ?_
      exact ⟨rfl, (b1.trans (b2.mono (by omega))).trans ((b3.mono (by have := b2.size; omega)).trans (g4.below (by have := b3.size; have := b2.size; omega) (by omega)))⟩
  · rw [h] at hb; cases hb
  · have h1' : (K != 0) = false := by simpa using h1
    have h2' : (m != 4) = false := by simpa using h2
    simp only [h3] at hr
    have h4' : (nc != 0) = true := by simpa using h4
    have h4'' : (nc == 0) = false := by simpa using h4
    have h5' : decide (now < t1) = true := decide_eq_true h5
    clear h hb h3 hI h4 h1 h2
    go_enter Try.func36, Try.ntmps36
    go_wp2_with (first
      | ((refine wpl_box (by rfl) 29 _ (by rfl) _ ([.int .i64 l, .int .i64 v, .int .i64 m, .int .i64 st, .int .i64 po, .int .i64 pr, .int .u32 rd, .int .u32 rp, .int .u32 id, .int .u64 ref, .int .u64 org, .int .u64 rec, .int .u64 xmt]) (by rfl) rfl ?_; intro w1 P1 s1 b1); (have H1 := H.below b1 hlt))
      | ((refine wpl_alloc (by rfl) 51 (by rfl) (.agg (zH).toArray) (zH) zeroHeard rfl ?_; intro w2 J2 s2 b2); (have H2 := H1.below b2 (by omega)); (have P2 := P1.below b2 (by omega)))
      | (refine wpl_loadm (by rfl) 63 _ (by rfl) g 1 (by rfl) _ _ H2 _ _ Try.underlying63 rfl _ sizeReq (by rfl) (by rfl) ?_)
      | (refine wpl_load (by rfl) 29 _ (by rfl) w.heap.size (by rfl) 29 _ P2 _ Try.underlying29 rfl _ sizeNtp (by rfl) ?_)
      | (go_at_call 43; ((with_reducible refine (hC _).mono ?_); rintro e w3 ⟨rfl, b3⟩; (have H3 := H2.below b3 (by omega)); (have P3 := P2.below b3 (by omega)); (have J3 := J2.below b3 J2.lt)))
      | (go_at_call 18; ((with_reducible refine (hr _).mono ?_); rintro e w1 ⟨rfl, rfl⟩))
      | (refine wpl_loadf (by rfl) 3 _ (by rfl) w.heap.size 2 (by rfl) _ _ P3 _ rfl _ Try.underlying3 rfl ?_) | (refine wpl_loadf (by rfl) 3 _ (by rfl) g 1 (by rfl) _ _ H3 _ rfl _ Try.underlying3 rfl ?_) | (refine wpl_loadf (by rfl) 4 _ (by rfl) g 3 (by rfl) _ _ H3 _ rfl _ Try.underlying4 rfl ?_)
      | (refine wpl_store (by rfl) 51 _ _ (by rfl) w1.heap.size (by rfl) _ (by rfl) _ rfl 51 _ J3 (by rfl) _ sizeHeard (by rfl) (by simp [Value.oneCell']) ?_; intro w4 J4 s4 g4))
    all_goals
      obtain ⟨k0, k1, k2, k3, k4, k5⟩ := cells6 J4
      refine bodyPost_ret (v := .tuple #[.agg (hdL 0 ⟨#[]⟩ 0 0 0 0).toArray, .bool true]) (by simp [results, Try.results36, go_sem, k0, k1, k2, k3, k4, k5]) rfl ?_
      exact ⟨rfl, (b1.trans (b2.mono (by omega))).trans ((b3.mono (by have := b2.size; omega)).trans (g4.below (by have := b3.size; have := b2.size; omega) (by omega)))⟩
  · rw [h] at hb; cases hb
/-- a reply that is not bad: what is known then -/
theorem good_parts {K m now nc t1 : Int} (hI : nc = 0 → t1 = 0) (hb : badB K m now nc t1 = false) : K = 0 ∧ m = 4 ∧ rdB now = true ∧ ((nc = 0 ∧ t1 = 0) ∨ ((nc == 0) = false ∧ (nc != 0) = true ∧ decide (now < t1) = false)) := by
  rcases bad_cases K m now nc t1 with ⟨h1, h⟩ | ⟨h1, h2, h⟩ | ⟨h1, h2, h3, h⟩ | ⟨h1, h2, h3, h4, h⟩ | ⟨h1, h2, h3, h4, h5, h⟩ | ⟨h1, h2, h3, h4, h5, h⟩
  · rw [h] at hb; cases hb
  · rw [h] at hb; cases hb
  · rw [h] at hb; cases hb
  · exact ⟨h1, h2, h3, .inl ⟨h4, hI h4⟩⟩
  · rw [h] at hb; cases hb
  · exact ⟨h1, h2, h3, .inr ⟨by simpa using h4, by simpa using h4, decide_eq_false h5⟩⟩
set_option maxRecDepth 100000 in
set_option maxHeartbeats 4000000 in
theorem refuse_none (g : Nat) (ver t1 nc lx c0 c1 c2 c3 c4 c5 c6 c7 now l v m st po pr rd rp id ref org rec xmt : Int) (w : World) (H : Blk w g 66 (asL ver t1 nc false lx c0 c1 c2 c3 c4 c5 c6 c7)) (hI : nc = 0 → t1 = 0) (hb : badB (nchk l v m st po pr) m now nc t1 = false) :
    Calls Try.prog 36 #[.pointer (some ⟨g, 0, none⟩), ntp l v m st po pr rd rp id ref org rec xmt, .int .i64 now] w fun e w' => e = .returned (.tuple #[.agg (hdL 1 ⟨#[]⟩ 0 0 0 0).toArray, .bool true]) ∧ Below w.heap.size w w' := by
  have hr := fun W => reading_any now W
  have hC := fun W => nchk_any l v m st po pr rd rp id ref org rec xmt W
  have hlt := H.lt
  obtain ⟨K, hK⟩ : ∃ K, K = nchk l v m st po pr := ⟨_, rfl⟩
  rw [← hK] at hb hC
  clear hK
  obtain ⟨hK0, hm4, h3, h4⟩ := good_parts hI hb
  have hK0' : (K != 0) = false := by simpa using hK0
  have hm4' : (m != 4) = false := by simpa using hm4
  clear hK0 hm4
  simp only [h3] at hr
  clear hb hI h3
  rcases h4 with ⟨rfl, rfl⟩ | ⟨h4, h5, h6⟩
  · skip
    go_enter Try.func36, Try.ntmps36
    go_wp2_with (first
      | ((refine wpl_box (by rfl) 29 _ (by rfl) _ ([.int .i64 l, .int .i64 v, .int .i64 m, .int .i64 st, .int .i64 po, .int .i64 pr, .int .u32 rd, .int .u32 rp, .int .u32 id, .int .u64 ref, .int .u64 org, .int .u64 rec, .int .u64 xmt]) (by rfl) rfl ?_; intro w1 P1 s1 b1); (have H1 := H.below b1 hlt))
      | ((refine wpl_alloc (by rfl) 51 (by rfl) (.agg (zH).toArray) (zH) zeroHeard rfl ?_; intro w2 J2 s2 b2); (have H2 := H1.below b2 (by omega)); (have P2 := P1.below b2 (by omega)))
      | (refine wpl_loadm (by rfl) 63 _ (by rfl) g 1 (by rfl) _ _ H2 _ _ Try.underlying63 rfl _ sizeReq (by rfl) (by rfl) ?_)
      | (refine wpl_load (by rfl) 29 _ (by rfl) w.heap.size (by rfl) 29 _ P2 _ Try.underlying29 rfl _ sizeNtp (by rfl) ?_)
      | (go_at_call 43; ((with_reducible refine (hC _).mono ?_); rintro e w3 ⟨rfl, b3⟩; (have H3 := H2.below b3 (by omega)); (have P3 := P2.below b3 (by omega)); (have J3 := J2.below b3 J2.lt)))
      | (go_at_call 18; ((with_reducible refine (hr _).mono ?_); rintro e w1 ⟨rfl, rfl⟩))
      | (refine wpl_loadf (by rfl) 3 _ (by rfl) w.heap.size 2 (by rfl) _ _ P3 _ rfl _ Try.underlying3 rfl ?_) | (refine wpl_loadf (by rfl) 3 _ (by rfl) g 1 (by rfl) _ _ H3 _ rfl _ Try.underlying3 rfl ?_) | (refine wpl_loadf (by rfl) 4 _ (by rfl) g 3 (by rfl) _ _ H3 _ rfl _ Try.underlying4 rfl ?_)
      | (refine wpl_store (by rfl) 51 _ _ (by rfl) w1.heap.size (by rfl) _ (by rfl) _ rfl 51 _ J3 (by rfl) _ sizeHeard (by rfl) (by simp [Value.oneCell']) ?_; intro w4 J4 s4 g4))
    all_goals
      obtain ⟨k0, k1, k2, k3, k4, k5⟩ := cells6 J4
      refine bodyPost_ret (v := .tuple #[.agg (hdL 1 ⟨#[]⟩ 0 0 0 0).toArray, .bool true]) (by simp [results, Try.results36, go_sem, k0, k1, k2, k3, k4, k5]) rfl ?_
      exact ⟨rfl, (b1.trans (b2.mono (by omega))).trans ((b3.mono (by have := b2.size; omega)).trans (g4.below (by have := b3.size; have := b2.size; omega) (by omega)))⟩
  · skip
    go_enter Try.func36, Try.ntmps36
    go_wp2_with (first
      | ((refine wpl_box (by rfl) 29 _ (by rfl) _ ([.int .i64 l, .int .i64 v, .int .i64 m, .int .i64 st, .int .i64 po, .int .i64 pr, .int .u32 rd, .int .u32 rp, .int .u32 id, .int .u64 ref, .int .u64 org, .int .u64 rec, .int .u64 xmt]) (by rfl) rfl ?_; intro w1 P1 s1 b1); (have H1 := H.below b1 hlt))
      | ((refine wpl_alloc (by rfl) 51 (by rfl) (.agg (zH).toArray) (zH) zeroHeard rfl ?_; intro w2 J2 s2 b2); (have H2 := H1.below b2 (by omega)); (have P2 := P1.below b2 (by omega)))
      | (refine wpl_loadm (by rfl) 63 _ (by rfl) g 1 (by rfl) _ _ H2 _ _ Try.underlying63 rfl _ sizeReq (by rfl) (by rfl) ?_)
      | (refine wpl_load (by rfl) 29 _ (by rfl) w.heap.size (by rfl) 29 _ P2 _ Try.underlying29 rfl _ sizeNtp (by rfl) ?_)
      | (go_at_call 43; ((with_reducible refine (hC _).mono ?_); rintro e w3 ⟨rfl, b3⟩; (have H3 := H2.below b3 (by omega)); (have P3 := P2.below b3 (by omega)); (have J3 := J2.below b3 J2.lt)))
      | (go_at_call 18; ((with_reducible refine (hr _).mono ?_); rintro e w1 ⟨rfl, rfl⟩))
      | (refine wpl_loadf (by rfl) 3 _ (by rfl) w.heap.size 2 (by rfl) _ _ P3 _ rfl _ Try.underlying3 rfl ?_) | (refine wpl_loadf (by rfl) 3 _ (by rfl) g 1 (by rfl) _ _ H3 _ rfl _ Try.underlying3 rfl ?_) | (refine wpl_loadf (by rfl) 4 _ (by rfl) g 3 (by rfl) _ _ H3 _ rfl _ Try.underlying4 rfl ?_)
      | (refine wpl_store (by rfl) 51 _ _ (by rfl) w1.heap.size (by rfl) _ (by rfl) _ rfl 51 _ J3 (by rfl) _ sizeHeard (by rfl) (by simp [Value.oneCell']) ?_; intro w4 J4 s4 g4))
    all_goals
      obtain ⟨k0, k1, k2, k3, k4, k5⟩ := cells6 J4
      refine bodyPost_ret (v := .tuple #[.agg (hdL 1 ⟨#[]⟩ 0 0 0 0).toArray, .bool true]) (by simp [results, Try.results36, go_sem, k0, k1, k2, k3, k4, k5]) rfl ?_
      exact ⟨rfl, (b1.trans (b2.mono (by omega))).trans ((b3.mono (by have := b2.size; omega)).trans (g4.below (by have := b3.size; have := b2.size; omega) (by omega)))⟩
set_option maxRecDepth 100000 in
set_option maxHeartbeats 4000000 in
theorem refuse_bogus (g : Nat) (ver t1 nc lx c0 c1 c2 c3 c4 c5 c6 c7 now l v m st po pr rd rp id ref org rec xmt : Int) (w : World) (H : Blk w g 66 (asL ver t1 nc true lx c0 c1 c2 c3 c4 c5 c6 c7)) (hI : nc = 0 → t1 = 0) (hb : badB (nchk l v m st po pr) m now nc t1 = false) (ho : org ≠ nc) :
    Calls Try.prog 36 #[.pointer (some ⟨g, 0, none⟩), ntp l v m st po pr rd rp id ref org rec xmt, .int .i64 now] w fun e w' => e = .returned (.tuple #[.agg (hdL 2 ⟨#[]⟩ 0 0 0 0).toArray, .bool true]) ∧ Below w.heap.size w w' := by
  have hr := fun W => reading_any now W
  have hC := fun W => nchk_any l v m st po pr rd rp id ref org rec xmt W
  have hlt := H.lt
  obtain ⟨K, hK⟩ : ∃ K, K = nchk l v m st po pr := ⟨_, rfl⟩
  rw [← hK] at hb hC
  clear hK
  obtain ⟨hK0, hm4, h3, h4⟩ := good_parts hI hb
  have hK0' : (K != 0) = false := by simpa using hK0
  have hm4' : (m != 4) = false := by simpa using hm4
  clear hK0 hm4
  simp only [h3] at hr
  clear hb hI h3
  have ho' : (org != nc) = true := by simpa using ho
  have HO := Lib.hid ho
  clear ho
  rcases h4 with ⟨rfl, rfl⟩ | ⟨h4, h5, h6⟩
  · skip
    go_enter Try.func36, Try.ntmps36
    go_wp2_with (first
      | ((refine wpl_box (by rfl) 29 _ (by rfl) _ ([.int .i64 l, .int .i64 v, .int .i64 m, .int .i64 st, .int .i64 po, .int .i64 pr, .int .u32 rd, .int .u32 rp, .int .u32 id, .int .u64 ref, .int .u64 org, .int .u64 rec, .int .u64 xmt]) (by rfl) rfl ?_; intro w1 P1 s1 b1); (have H1 := H.below b1 hlt))
      | ((refine wpl_alloc (by rfl) 51 (by rfl) (.agg (zH).toArray) (zH) zeroHeard rfl ?_; intro w2 J2 s2 b2); (have H2 := H1.below b2 (by omega)); (have P2 := P1.below b2 (by omega)))
      | (refine wpl_loadm (by rfl) 63 _ (by rfl) g 1 (by rfl) _ _ H2 _ _ Try.underlying63 rfl _ sizeReq (by rfl) (by rfl) ?_)
      | (refine wpl_load (by rfl) 29 _ (by rfl) w.heap.size (by rfl) 29 _ P2 _ Try.underlying29 rfl _ sizeNtp (by rfl) ?_)
      | (go_at_call 43; ((with_reducible refine (hC _).mono ?_); rintro e w3 ⟨rfl, b3⟩; (have H3 := H2.below b3 (by omega)); (have P3 := P2.below b3 (by omega)); (have J3 := J2.below b3 J2.lt)))
      | (go_at_call 18; ((with_reducible refine (hr _).mono ?_); rintro e w1 ⟨rfl, rfl⟩))
      | (refine wpl_loadf (by rfl) 3 _ (by rfl) w.heap.size 2 (by rfl) _ _ P3 _ rfl _ Try.underlying3 rfl ?_) | (refine wpl_loadf (by rfl) 3 _ (by rfl) g 1 (by rfl) _ _ H3 _ rfl _ Try.underlying3 rfl ?_) | (refine wpl_loadf (by rfl) 4 _ (by rfl) g 3 (by rfl) _ _ H3 _ rfl _ Try.underlying4 rfl ?_)
      | (refine wpl_store (by rfl) 51 _ _ (by rfl) w1.heap.size (by rfl) _ (by rfl) _ rfl 51 _ J3 (by rfl) _ sizeHeard (by rfl) (by simp [Value.oneCell']) ?_; intro w4 J4 s4 g4))
    all_goals
      have B3 : Below w.heap.size w w3 := (b1.trans (b2.mono (by omega))).trans (b3.mono (by have := b2.size; omega))
      have z3 := b3.size
      have q1 := P3.cell (i := 10) rfl
      have q2 := H3.cell (i := 2) rfl
      go_region_held3 (fun w' => w'.cell? ⟨w.heap.size, 10, none⟩ = some (.int .u64 org) ∧ w'.cell? ⟨g, 2, none⟩ = some (.int .u64 0)) (exact ⟨q1, q2⟩) (fail)
      clear q1 q2
      have H5 := H3.drew
      have P5 := P3.drew
      have J5 := J3.drew
      have b5 := Below.drew B3
      have z5 : w2.heap.size ≤ w3.drew.heap.size := z3
      generalize w3.drew = w5 at H5 P5 J5 b5 z5 ⊢
      clear H3 P3 J3 b3 B3 z3
      go_wp2_with (first | (refine wpl_store (by rfl) 51 _ _ (by rfl) w1.heap.size (by rfl) _ (by rfl) _ rfl 51 _ J5 (by rfl) _ sizeHeard (by rfl) (by simp [Value.oneCell']) ?_; intro w4 J4 s4 g4))
      obtain ⟨k0, k1, k2, k3, k4, k5⟩ := cells6 J4
      refine bodyPost_ret (v := .tuple #[.agg (hdL 2 ⟨#[]⟩ 0 0 0 0).toArray, .bool true]) (by simp [results, Try.results36, go_sem, k0, k1, k2, k3, k4, k5]) rfl ?_
      exact ⟨rfl, b5.trans (g4.below (by omega) (by omega))⟩
  · skip
    go_enter Try.func36, Try.ntmps36
    go_wp2_with (first
      | ((refine wpl_box (by rfl) 29 _ (by rfl) _ ([.int .i64 l, .int .i64 v, .int .i64 m, .int .i64 st, .int .i64 po, .int .i64 pr, .int .u32 rd, .int .u32 rp, .int .u32 id, .int .u64 ref, .int .u64 org, .int .u64 rec, .int .u64 xmt]) (by rfl) rfl ?_; intro w1 P1 s1 b1); (have H1 := H.below b1 hlt))
      | ((refine wpl_alloc (by rfl) 51 (by rfl) (.agg (zH).toArray) (zH) zeroHeard rfl ?_; intro w2 J2 s2 b2); (have H2 := H1.below b2 (by omega)); (have P2 := P1.below b2 (by omega)))
      | (refine wpl_loadm (by rfl) 63 _ (by rfl) g 1 (by rfl) _ _ H2 _ _ Try.underlying63 rfl _ sizeReq (by rfl) (by rfl) ?_)
      | (refine wpl_load (by rfl) 29 _ (by rfl) w.heap.size (by rfl) 29 _ P2 _ Try.underlying29 rfl _ sizeNtp (by rfl) ?_)
      | (go_at_call 43; ((with_reducible refine (hC _).mono ?_); rintro e w3 ⟨rfl, b3⟩; (have H3 := H2.below b3 (by omega)); (have P3 := P2.below b3 (by omega)); (have J3 := J2.below b3 J2.lt)))
      | (go_at_call 18; ((with_reducible refine (hr _).mono ?_); rintro e w1 ⟨rfl, rfl⟩))
      | (refine wpl_loadf (by rfl) 3 _ (by rfl) w.heap.size 2 (by rfl) _ _ P3 _ rfl _ Try.underlying3 rfl ?_) | (refine wpl_loadf (by rfl) 3 _ (by rfl) g 1 (by rfl) _ _ H3 _ rfl _ Try.underlying3 rfl ?_) | (refine wpl_loadf (by rfl) 4 _ (by rfl) g 3 (by rfl) _ _ H3 _ rfl _ Try.underlying4 rfl ?_)
      | (refine wpl_store (by rfl) 51 _ _ (by rfl) w1.heap.size (by rfl) _ (by rfl) _ rfl 51 _ J3 (by rfl) _ sizeHeard (by rfl) (by simp [Value.oneCell']) ?_; intro w4 J4 s4 g4))
    all_goals
      have B3 : Below w.heap.size w w3 := (b1.trans (b2.mono (by omega))).trans (b3.mono (by have := b2.size; omega))
      have z3 := b3.size
      have q1 := P3.cell (i := 10) rfl
      have q2 := H3.cell (i := 2) rfl
      go_region_held3 (fun w' => w'.cell? ⟨w.heap.size, 10, none⟩ = some (.int .u64 org) ∧ w'.cell? ⟨g, 2, none⟩ = some (.int .u64 nc)) (exact ⟨q1, q2⟩) (fail)
      clear q1 q2
      have H5 := H3.drew
      have P5 := P3.drew
      have J5 := J3.drew
      have b5 := Below.drew B3
      have z5 : w2.heap.size ≤ w3.drew.heap.size := z3
      generalize w3.drew = w5 at H5 P5 J5 b5 z5 ⊢
      clear H3 P3 J3 b3 B3 z3
      go_wp2_with (first | (refine wpl_store (by rfl) 51 _ _ (by rfl) w1.heap.size (by rfl) _ (by rfl) _ rfl 51 _ J5 (by rfl) _ sizeHeard (by rfl) (by simp [Value.oneCell']) ?_; intro w4 J4 s4 g4))
      obtain ⟨k0, k1, k2, k3, k4, k5⟩ := cells6 J4
      refine bodyPost_ret (v := .tuple #[.agg (hdL 2 ⟨#[]⟩ 0 0 0 0).toArray, .bool true]) (by simp [results, Try.results36, go_sem, k0, k1, k2, k3, k4, k5]) rfl ?_
      exact ⟨rfl, b5.trans (g4.below (by omega) (by omega))⟩
set_option maxRecDepth 100000 in
set_option maxHeartbeats 4000000 in
theorem refuse_dup (g : Nat) (ver t1 nc lx c0 c1 c2 c3 c4 c5 c6 c7 now l v m st po pr rd rp id ref org rec xmt : Int) (w : World) (H : Blk w g 66 (asL ver t1 nc true lx c0 c1 c2 c3 c4 c5 c6 c7)) (hI : nc = 0 → t1 = 0) (hb : badB (nchk l v m st po pr) m now nc t1 = false) (ho : org = nc) (hx : xmt ≠ 0) (hl : xmt = lx) :
    Calls Try.prog 36 #[.pointer (some ⟨g, 0, none⟩), ntp l v m st po pr rd rp id ref org rec xmt, .int .i64 now] w fun e w' => e = .returned (.tuple #[.agg (hdL 3 ⟨#[]⟩ 0 0 0 0).toArray, .bool true]) ∧ Below w.heap.size w w' := by
  have hr := fun W => reading_any now W
  have hC := fun W => nchk_any l v m st po pr rd rp id ref org rec xmt W
  have hlt := H.lt
  obtain ⟨K, hK⟩ : ∃ K, K = nchk l v m st po pr := ⟨_, rfl⟩
  rw [← hK] at hb hC
  clear hK
  obtain ⟨hK0, hm4, h3, h4⟩ := good_parts hI hb
  have hK0' : (K != 0) = false := by simpa using hK0
  have hm4' : (m != 4) = false := by simpa using hm4
  clear hK0 hm4
  simp only [h3] at hr
  clear hb hI h3
  have ho' : (org != nc) = false := by simpa using ho
  have hl' : (xmt == lx) = true := by simpa using hl
  clear ho hl
  have hx' : (xmt != 0) = true := by simpa using hx
  clear hx
  rcases h4 with ⟨rfl, rfl⟩ | ⟨h4, h5, h6⟩
  · skip
    go_enter Try.func36, Try.ntmps36
    go_wp2_with (first
      | ((refine wpl_box (by rfl) 29 _ (by rfl) _ ([.int .i64 l, .int .i64 v, .int .i64 m, .int .i64 st, .int .i64 po, .int .i64 pr, .int .u32 rd, .int .u32 rp, .int .u32 id, .int .u64 ref, .int .u64 org, .int .u64 rec, .int .u64 xmt]) (by rfl) rfl ?_; intro w1 P1 s1 b1); (have H1 := H.below b1 hlt))
      | ((refine wpl_alloc (by rfl) 51 (by rfl) (.agg (zH).toArray) (zH) zeroHeard rfl ?_; intro w2 J2 s2 b2); (have H2 := H1.below b2 (by omega)); (have P2 := P1.below b2 (by omega)))
      | (refine wpl_loadm (by rfl) 63 _ (by rfl) g 1 (by rfl) _ _ H2 _ _ Try.underlying63 rfl _ sizeReq (by rfl) (by rfl) ?_)
      | (refine wpl_load (by rfl) 29 _ (by rfl) w.heap.size (by rfl) 29 _ P2 _ Try.underlying29 rfl _ sizeNtp (by rfl) ?_)
      | (go_at_call 43; ((with_reducible refine (hC _).mono ?_); rintro e w3 ⟨rfl, b3⟩; (have H3 := H2.below b3 (by omega)); (have P3 := P2.below b3 (by omega)); (have J3 := J2.below b3 J2.lt)))
      | (go_at_call 18; ((with_reducible refine (hr _).mono ?_); rintro e w1 ⟨rfl, rfl⟩))
      | (refine wpl_loadf (by rfl) 3 _ (by rfl) w.heap.size 2 (by rfl) _ _ P3 _ rfl _ Try.underlying3 rfl ?_) | (refine wpl_loadf (by rfl) 3 _ (by rfl) g 1 (by rfl) _ _ H3 _ rfl _ Try.underlying3 rfl ?_) | (refine wpl_loadf (by rfl) 4 _ (by rfl) g 3 (by rfl) _ _ H3 _ rfl _ Try.underlying4 rfl ?_)
      | (refine wpl_store (by rfl) 51 _ _ (by rfl) w1.heap.size (by rfl) _ (by rfl) _ rfl 51 _ J3 (by rfl) _ sizeHeard (by rfl) (by simp [Value.oneCell']) ?_; intro w4 J4 s4 g4))
    all_goals
      have B3 : Below w.heap.size w w3 := (b1.trans (b2.mono (by omega))).trans (b3.mono (by have := b2.size; omega))
      have z3 := b3.size
      have q1 := P3.cell (i := 10) rfl
      have q2 := H3.cell (i := 2) rfl
      go_region_held3 (fun w' => w'.cell? ⟨w.heap.size, 10, none⟩ = some (.int .u64 org) ∧ w'.cell? ⟨g, 2, none⟩ = some (.int .u64 0)) (exact ⟨q1, q2⟩) (fail)
      clear q1 q2
      have H5 := H3.drew
      have P5 := P3.drew
      have J5 := J3.drew
      have b5 := Below.drew B3
      have z5 : w2.heap.size ≤ w3.drew.heap.size := z3
      generalize w3.drew = w5 at H5 P5 J5 b5 z5 ⊢
      clear H3 P3 J3 b3 B3 z3
      go_wp2_with fail
      have q1 := P5.cell (i := 12) rfl
      have q2 := H5.cell (i := 3 + 1) rfl
      go_region_held3 (fun w' => w'.cell? ⟨w.heap.size, 12, none⟩ = some (.int .u64 xmt) ∧ w'.cell? ⟨g, 4, none⟩ = some (.int .u64 lx)) (exact ⟨q1, q2⟩) (fail)
      clear q1 q2
      have J6 := J5.drew
      have b6 := Below.drew b5
      have z6 : w2.heap.size ≤ w5.drew.heap.size := z5
      generalize w5.drew = w6 at J6 b6 z6 ⊢
      clear H5 P5 J5 b5 z5
      have b5 := b6
      have z5 := z6
      have J5 := J6
      clear b6 z6 J6
      go_wp2_with (first | (refine wpl_store (by rfl) 51 _ _ (by rfl) w1.heap.size (by rfl) _ (by rfl) _ rfl 51 _ J5 (by rfl) _ sizeHeard (by rfl) (by simp [Value.oneCell']) ?_; intro w4 J4 s4 g4))
      obtain ⟨k0, k1, k2, k3, k4, k5⟩ := cells6 J4
      refine bodyPost_ret (v := .tuple #[.agg (hdL 3 ⟨#[]⟩ 0 0 0 0).toArray, .bool true]) (by simp [results, Try.results36, go_sem, k0, k1, k2, k3, k4, k5]) rfl ?_
      exact ⟨rfl, b5.trans (g4.below (by omega) (by omega))⟩
  · skip
    go_enter Try.func36, Try.ntmps36
    go_wp2_with (first
      | ((refine wpl_box (by rfl) 29 _ (by rfl) _ ([.int .i64 l, .int .i64 v, .int .i64 m, .int .i64 st, .int .i64 po, .int .i64 pr, .int .u32 rd, .int .u32 rp, .int .u32 id, .int .u64 ref, .int .u64 org, .int .u64 rec, .int .u64 xmt]) (by rfl) rfl ?_; intro w1 P1 s1 b1); (have H1 := H.below b1 hlt))
      | ((refine wpl_alloc (by rfl) 51 (by rfl) (.agg (zH).toArray) (zH) zeroHeard rfl ?_; intro w2 J2 s2 b2); (have H2 := H1.below b2 (by omega)); (have P2 := P1.below b2 (by omega)))
      | (refine wpl_loadm (by rfl) 63 _ (by rfl) g 1 (by rfl) _ _ H2 _ _ Try.underlying63 rfl _ sizeReq (by rfl) (by rfl) ?_)
      | (refine wpl_load (by rfl) 29 _ (by rfl) w.heap.size (by rfl) 29 _ P2 _ Try.underlying29 rfl _ sizeNtp (by rfl) ?_)
      | (go_at_call 43; ((with_reducible refine (hC _).mono ?_); rintro e w3 ⟨rfl, b3⟩; (have H3 := H2.below b3 (by omega)); (have P3 := P2.below b3 (by omega)); (have J3 := J2.below b3 J2.lt)))
      | (go_at_call 18; ((with_reducible refine (hr _).mono ?_); rintro e w1 ⟨rfl, rfl⟩))
      | (refine wpl_loadf (by rfl) 3 _ (by rfl) w.heap.size 2 (by rfl) _ _ P3 _ rfl _ Try.underlying3 rfl ?_) | (refine wpl_loadf (by rfl) 3 _ (by rfl) g 1 (by rfl) _ _ H3 _ rfl _ Try.underlying3 rfl ?_) | (refine wpl_loadf (by rfl) 4 _ (by rfl) g 3 (by rfl) _ _ H3 _ rfl _ Try.underlying4 rfl ?_)
      | (refine wpl_store (by rfl) 51 _ _ (by rfl) w1.heap.size (by rfl) _ (by rfl) _ rfl 51 _ J3 (by rfl) _ sizeHeard (by rfl) (by simp [Value.oneCell']) ?_; intro w4 J4 s4 g4))
    all_goals
      have B3 : Below w.heap.size w w3 := (b1.trans (b2.mono (by omega))).trans (b3.mono (by have := b2.size; omega))
      have z3 := b3.size
      have q1 := P3.cell (i := 10) rfl
      have q2 := H3.cell (i := 2) rfl
      go_region_held3 (fun w' => w'.cell? ⟨w.heap.size, 10, none⟩ = some (.int .u64 org) ∧ w'.cell? ⟨g, 2, none⟩ = some (.int .u64 nc)) (exact ⟨q1, q2⟩) (fail)
      clear q1 q2
      have H5 := H3.drew
      have P5 := P3.drew
      have J5 := J3.drew
      have b5 := Below.drew B3
      have z5 : w2.heap.size ≤ w3.drew.heap.size := z3
      generalize w3.drew = w5 at H5 P5 J5 b5 z5 ⊢
      clear H3 P3 J3 b3 B3 z3
      go_wp2_with fail
      have q1 := P5.cell (i := 12) rfl
      have q2 := H5.cell (i := 3 + 1) rfl
      go_region_held3 (fun w' => w'.cell? ⟨w.heap.size, 12, none⟩ = some (.int .u64 xmt) ∧ w'.cell? ⟨g, 4, none⟩ = some (.int .u64 lx)) (exact ⟨q1, q2⟩) (fail)
      clear q1 q2
      have J6 := J5.drew
      have b6 := Below.drew b5
      have z6 : w2.heap.size ≤ w5.drew.heap.size := z5
      generalize w5.drew = w6 at J6 b6 z6 ⊢
      clear H5 P5 J5 b5 z5
      have b5 := b6
      have z5 := z6
      have J5 := J6
      clear b6 z6 J6
      go_wp2_with (first | (refine wpl_store (by rfl) 51 _ _ (by rfl) w1.heap.size (by rfl) _ (by rfl) _ rfl 51 _ J5 (by rfl) _ sizeHeard (by rfl) (by simp [Value.oneCell']) ?_; intro w4 J4 s4 g4))
      obtain ⟨k0, k1, k2, k3, k4, k5⟩ := cells6 J4
      refine bodyPost_ret (v := .tuple #[.agg (hdL 3 ⟨#[]⟩ 0 0 0 0).toArray, .bool true]) (by simp [results, Try.results36, go_sem, k0, k1, k2, k3, k4, k5]) rfl ?_
      exact ⟨rfl, b5.trans (g4.below (by omega) (by omega))⟩
set_option maxRecDepth 100000 in
set_option maxHeartbeats 4000000 in
theorem refuse_pass (g : Nat) (ver t1 nc lx c0 c1 c2 c3 c4 c5 c6 c7 now l v m st po pr rd rp id ref org rec xmt : Int) (w : World) (H : Blk w g 66 (asL ver t1 nc true lx c0 c1 c2 c3 c4 c5 c6 c7)) (hI : nc = 0 → t1 = 0) (hb : badB (nchk l v m st po pr) m now nc t1 = false) (ho : org = nc) (hx : xmt = 0 ∨ xmt ≠ lx) :
    Calls Try.prog 36 #[.pointer (some ⟨g, 0, none⟩), ntp l v m st po pr rd rp id ref org rec xmt, .int .i64 now] w fun e w' => e = .returned (.tuple #[.agg (hdL 0 ⟨#[]⟩ 0 0 0 0).toArray, .bool false]) ∧ Below w.heap.size w w' := by
  have hr := fun W => reading_any now W
  have hC := fun W => nchk_any l v m st po pr rd rp id ref org rec xmt W
  have hlt := H.lt
  obtain ⟨K, hK⟩ : ∃ K, K = nchk l v m st po pr := ⟨_, rfl⟩
  rw [← hK] at hb hC
  clear hK
  obtain ⟨hK0, hm4, h3, h4⟩ := good_parts hI hb
  have hK0' : (K != 0) = false := by simpa using hK0
  have hm4' : (m != 4) = false := by simpa using hm4
  clear hK0 hm4
  simp only [h3] at hr
  clear hb hI h3
  have ho' : (org != nc) = false := by simpa using ho
  clear ho
  by_cases hx0 : xmt = 0
  · have hx' : (xmt != 0) = false := by simpa using hx0
    clear hx hx0
    rcases h4 with ⟨rfl, rfl⟩ | ⟨h4, h5, h6⟩
    · skip
      go_enter Try.func36, Try.ntmps36
      go_wp2_with (first
        | ((refine wpl_box (by rfl) 29 _ (by rfl) _ ([.int .i64 l, .int .i64 v, .int .i64 m, .int .i64 st, .int .i64 po, .int .i64 pr, .int .u32 rd, .int .u32 rp, .int .u32 id, .int .u64 ref, .int .u64 org, .int .u64 rec, .int .u64 xmt]) (by rfl) rfl ?_; intro w1 P1 s1 b1); (have H1 := H.below b1 hlt))
        | ((refine wpl_alloc (by rfl) 51 (by rfl) (.agg (zH).toArray) (zH) zeroHeard rfl ?_; intro w2 J2 s2 b2); (have H2 := H1.below b2 (by omega)); (have P2 := P1.below b2 (by omega)))
        | (refine wpl_loadm (by rfl) 63 _ (by rfl) g 1 (by rfl) _ _ H2 _ _ Try.underlying63 rfl _ sizeReq (by rfl) (by rfl) ?_)
        | (refine wpl_load (by rfl) 29 _ (by rfl) w.heap.size (by rfl) 29 _ P2 _ Try.underlying29 rfl _ sizeNtp (by rfl) ?_)
        | (go_at_call 43; ((with_reducible refine (hC _).mono ?_); rintro e w3 ⟨rfl, b3⟩; (have H3 := H2.below b3 (by omega)); (have P3 := P2.below b3 (by omega)); (have J3 := J2.below b3 J2.lt)))
        | (go_at_call 18; ((with_reducible refine (hr _).mono ?_); rintro e w1 ⟨rfl, rfl⟩))
        | (refine wpl_loadf (by rfl) 3 _ (by rfl) w.heap.size 2 (by rfl) _ _ P3 _ rfl _ Try.underlying3 rfl ?_) | (refine wpl_loadf (by rfl) 3 _ (by rfl) g 1 (by rfl) _ _ H3 _ rfl _ Try.underlying3 rfl ?_) | (refine wpl_loadf (by rfl) 4 _ (by rfl) g 3 (by rfl) _ _ H3 _ rfl _ Try.underlying4 rfl ?_)
        | (refine wpl_store (by rfl) 51 _ _ (by rfl) w1.heap.size (by rfl) _ (by rfl) _ rfl 51 _ J3 (by rfl) _ sizeHeard (by rfl) (by simp [Value.oneCell']) ?_; intro w4 J4 s4 g4))
      all_goals
        have B3 : Below w.heap.size w w3 := (b1.trans (b2.mono (by omega))).trans (b3.mono (by have := b2.size; omega))
        have z3 := b3.size
        have q1 := P3.cell (i := 10) rfl
        have q2 := H3.cell (i := 2) rfl
        go_region_held3 (fun w' => w'.cell? ⟨w.heap.size, 10, none⟩ = some (.int .u64 org) ∧ w'.cell? ⟨g, 2, none⟩ = some (.int .u64 0)) (exact ⟨q1, q2⟩) (fail)
        clear q1 q2
        have H5 := H3.drew
        have P5 := P3.drew
        have J5 := J3.drew
        have b5 := Below.drew B3
        have z5 : w2.heap.size ≤ w3.drew.heap.size := z3
        generalize w3.drew = w5 at H5 P5 J5 b5 z5 ⊢
        clear H3 P3 J3 b3 B3 z3
        go_wp2_with fail
        have q1 := P5.cell (i := 12) rfl
        go_quiet (fail)
        clear q1
        have J6 := J5.drewN nq
        have b6 := below_drewN b5 nq
        have z6 : w2.heap.size ≤ (w5.drewN nq).heap.size := z5
        generalize w5.drewN nq = w6 at J6 b6 z6 ⊢
        clear H5 P5 J5 b5 z5
        have b5 := b6
        have z5 := z6
        have J5 := J6
        clear b6 z6 J6
        go_wp2_with (first | (refine wpl_store (by rfl) 51 _ _ (by rfl) w1.heap.size (by rfl) _ (by rfl) _ rfl 51 _ J5 (by rfl) _ sizeHeard (by rfl) (by simp [Value.oneCell']) ?_; intro w4 J4 s4 g4))
        obtain ⟨k0, k1, k2, k3, k4, k5⟩ := cells6 J4
        refine bodyPost_ret (v := .tuple #[.agg (hdL 0 ⟨#[]⟩ 0 0 0 0).toArray, .bool false]) (by simp [results, Try.results36, go_sem, k0, k1, k2, k3, k4, k5]) rfl ?_
        exact ⟨rfl, b5.trans (g4.below (by omega) (by omega))⟩
    · skip
      go_enter Try.func36, Try.ntmps36
      go_wp2_with (first
        | ((refine wpl_box (by rfl) 29 _ (by rfl) _ ([.int .i64 l, .int .i64 v, .int .i64 m, .int .i64 st, .int .i64 po, .int .i64 pr, .int .u32 rd, .int .u32 rp, .int .u32 id, .int .u64 ref, .int .u64 org, .int .u64 rec, .int .u64 xmt]) (by rfl) rfl ?_; intro w1 P1 s1 b1); (have H1 := H.below b1 hlt))
        | ((refine wpl_alloc (by rfl) 51 (by rfl) (.agg (zH).toArray) (zH) zeroHeard rfl ?_; intro w2 J2 s2 b2); (have H2 := H1.below b2 (by omega)); (have P2 := P1.below b2 (by omega)))
        | (refine wpl_loadm (by rfl) 63 _ (by rfl) g 1 (by rfl) _ _ H2 _ _ Try.underlying63 rfl _ sizeReq (by rfl) (by rfl) ?_)
        | (refine wpl_load (by rfl) 29 _ (by rfl) w.heap.size (by rfl) 29 _ P2 _ Try.underlying29 rfl _ sizeNtp (by rfl) ?_)
        | (go_at_call 43; ((with_reducible refine (hC _).mono ?_); rintro e w3 ⟨rfl, b3⟩; (have H3 := H2.below b3 (by omega)); (have P3 := P2.below b3 (by omega)); (have J3 := J2.below b3 J2.lt)))
        | (go_at_call 18; ((with_reducible refine (hr _).mono ?_); rintro e w1 ⟨rfl, rfl⟩))
        | (refine wpl_loadf (by rfl) 3 _ (by rfl) w.heap.size 2 (by rfl) _ _ P3 _ rfl _ Try.underlying3 rfl ?_) | (refine wpl_loadf (by rfl) 3 _ (by rfl) g 1 (by rfl) _ _ H3 _ rfl _ Try.underlying3 rfl ?_) | (refine wpl_loadf (by rfl) 4 _ (by rfl) g 3 (by rfl) _ _ H3 _ rfl _ Try.underlying4 rfl ?_)
        | (refine wpl_store (by rfl) 51 _ _ (by rfl) w1.heap.size (by rfl) _ (by rfl) _ rfl 51 _ J3 (by rfl) _ sizeHeard (by rfl) (by simp [Value.oneCell']) ?_; intro w4 J4 s4 g4))
      all_goals
        have B3 : Below w.heap.size w w3 := (b1.trans (b2.mono (by omega))).trans (b3.mono (by have := b2.size; omega))
        have z3 := b3.size
        have q1 := P3.cell (i := 10) rfl
        have q2 := H3.cell (i := 2) rfl
        go_region_held3 (fun w' => w'.cell? ⟨w.heap.size, 10, none⟩ = some (.int .u64 org) ∧ w'.cell? ⟨g, 2, none⟩ = some (.int .u64 nc)) (exact ⟨q1, q2⟩) (fail)
        clear q1 q2
        have H5 := H3.drew
        have P5 := P3.drew
        have J5 := J3.drew
        have b5 := Below.drew B3
        have z5 : w2.heap.size ≤ w3.drew.heap.size := z3
        generalize w3.drew = w5 at H5 P5 J5 b5 z5 ⊢
        clear H3 P3 J3 b3 B3 z3
        go_wp2_with fail
        have q1 := P5.cell (i := 12) rfl
        go_quiet (fail)
        clear q1
        have J6 := J5.drewN nq
        have b6 := below_drewN b5 nq
        have z6 : w2.heap.size ≤ (w5.drewN nq).heap.size := z5
        generalize w5.drewN nq = w6 at J6 b6 z6 ⊢
        clear H5 P5 J5 b5 z5
        have b5 := b6
        have z5 := z6
        have J5 := J6
        clear b6 z6 J6
        go_wp2_with (first | (refine wpl_store (by rfl) 51 _ _ (by rfl) w1.heap.size (by rfl) _ (by rfl) _ rfl 51 _ J5 (by rfl) _ sizeHeard (by rfl) (by simp [Value.oneCell']) ?_; intro w4 J4 s4 g4))
        obtain ⟨k0, k1, k2, k3, k4, k5⟩ := cells6 J4
        refine bodyPost_ret (v := .tuple #[.agg (hdL 0 ⟨#[]⟩ 0 0 0 0).toArray, .bool false]) (by simp [results, Try.results36, go_sem, k0, k1, k2, k3, k4, k5]) rfl ?_
        exact ⟨rfl, b5.trans (g4.below (by omega) (by omega))⟩
  · have hx' : (xmt != 0) = true := by simpa using hx0
    have hl' : (xmt == lx) = false := by simp; omega
    clear hx hx0
    rcases h4 with ⟨rfl, rfl⟩ | ⟨h4, h5, h6⟩
    · skip
      go_enter Try.func36, Try.ntmps36
      go_wp2_with (first
        | ((refine wpl_box (by rfl) 29 _ (by rfl) _ ([.int .i64 l, .int .i64 v, .int .i64 m, .int .i64 st, .int .i64 po, .int .i64 pr, .int .u32 rd, .int .u32 rp, .int .u32 id, .int .u64 ref, .int .u64 org, .int .u64 rec, .int .u64 xmt]) (by rfl) rfl ?_; intro w1 P1 s1 b1); (have H1 := H.below b1 hlt))
        | ((refine wpl_alloc (by rfl) 51 (by rfl) (.agg (zH).toArray) (zH) zeroHeard rfl ?_; intro w2 J2 s2 b2); (have H2 := H1.below b2 (by omega)); (have P2 := P1.below b2 (by omega)))
        | (refine wpl_loadm (by rfl) 63 _ (by rfl) g 1 (by rfl) _ _ H2 _ _ Try.underlying63 rfl _ sizeReq (by rfl) (by rfl) ?_)
        | (refine wpl_load (by rfl) 29 _ (by rfl) w.heap.size (by rfl) 29 _ P2 _ Try.underlying29 rfl _ sizeNtp (by rfl) ?_)
        | (go_at_call 43; ((with_reducible refine (hC _).mono ?_); rintro e w3 ⟨rfl, b3⟩; (have H3 := H2.below b3 (by omega)); (have P3 := P2.below b3 (by omega)); (have J3 := J2.below b3 J2.lt)))
        | (go_at_call 18; ((with_reducible refine (hr _).mono ?_); rintro e w1 ⟨rfl, rfl⟩))
        | (refine wpl_loadf (by rfl) 3 _ (by rfl) w.heap.size 2 (by rfl) _ _ P3 _ rfl _ Try.underlying3 rfl ?_) | (refine wpl_loadf (by rfl) 3 _ (by rfl) g 1 (by rfl) _ _ H3 _ rfl _ Try.underlying3 rfl ?_) | (refine wpl_loadf (by rfl) 4 _ (by rfl) g 3 (by rfl) _ _ H3 _ rfl _ Try.underlying4 rfl ?_)
        | (refine wpl_store (by rfl) 51 _ _ (by rfl) w1.heap.size (by rfl) _ (by rfl) _ rfl 51 _ J3 (by rfl) _ sizeHeard (by rfl) (by simp [Value.oneCell']) ?_; intro w4 J4 s4 g4))
      all_goals
        have B3 : Below w.heap.size w w3 := (b1.trans (b2.mono (by omega))).trans (b3.mono (by have := b2.size; omega))
        have z3 := b3.size
        have q1 := P3.cell (i := 10) rfl
        have q2 := H3.cell (i := 2) rfl
        go_region_held3 (fun w' => w'.cell? ⟨w.heap.size, 10, none⟩ = some (.int .u64 org) ∧ w'.cell? ⟨g, 2, none⟩ = some (.int .u64 0)) (exact ⟨q1, q2⟩) (fail)
        clear q1 q2
        have H5 := H3.drew
        have P5 := P3.drew
        have J5 := J3.drew
        have b5 := Below.drew B3
        have z5 : w2.heap.size ≤ w3.drew.heap.size := z3
        generalize w3.drew = w5 at H5 P5 J5 b5 z5 ⊢
        clear H3 P3 J3 b3 B3 z3
        go_wp2_with fail
        have q1 := P5.cell (i := 12) rfl
        have q2 := H5.cell (i := 3 + 1) rfl
        go_region_held3 (fun w' => w'.cell? ⟨w.heap.size, 12, none⟩ = some (.int .u64 xmt) ∧ w'.cell? ⟨g, 4, none⟩ = some (.int .u64 lx)) (exact ⟨q1, q2⟩) (fail)
        clear q1 q2
        have J6 := J5.drew
        have b6 := Below.drew b5
        have z6 : w2.heap.size ≤ w5.drew.heap.size := z5
        generalize w5.drew = w6 at J6 b6 z6 ⊢
        clear H5 P5 J5 b5 z5
        have b5 := b6
        have z5 := z6
        have J5 := J6
        clear b6 z6 J6
        go_wp2_with (first | (refine wpl_store (by rfl) 51 _ _ (by rfl) w1.heap.size (by rfl) _ (by rfl) _ rfl 51 _ J5 (by rfl) _ sizeHeard (by rfl) (by simp [Value.oneCell']) ?_; intro w4 J4 s4 g4))
        obtain ⟨k0, k1, k2, k3, k4, k5⟩ := cells6 J4
        refine bodyPost_ret (v := .tuple #[.agg (hdL 0 ⟨#[]⟩ 0 0 0 0).toArray, .bool false]) (by simp [results, Try.results36, go_sem, k0, k1, k2, k3, k4, k5]) rfl ?_
        exact ⟨rfl, b5.trans (g4.below (by omega) (by omega))⟩
    · skip
      go_enter Try.func36, Try.ntmps36
      go_wp2_with (first
        | ((refine wpl_box (by rfl) 29 _ (by rfl) _ ([.int .i64 l, .int .i64 v, .int .i64 m, .int .i64 st, .int .i64 po, .int .i64 pr, .int .u32 rd, .int .u32 rp, .int .u32 id, .int .u64 ref, .int .u64 org, .int .u64 rec, .int .u64 xmt]) (by rfl) rfl ?_; intro w1 P1 s1 b1); (have H1 := H.below b1 hlt))
        | ((refine wpl_alloc (by rfl) 51 (by rfl) (.agg (zH).toArray) (zH) zeroHeard rfl ?_; intro w2 J2 s2 b2); (have H2 := H1.below b2 (by omega)); (have P2 := P1.below b2 (by omega)))
        | (refine wpl_loadm (by rfl) 63 _ (by rfl) g 1 (by rfl) _ _ H2 _ _ Try.underlying63 rfl _ sizeReq (by rfl) (by rfl) ?_)
        | (refine wpl_load (by rfl) 29 _ (by rfl) w.heap.size (by rfl) 29 _ P2 _ Try.underlying29 rfl _ sizeNtp (by rfl) ?_)
        | (go_at_call 43; ((with_reducible refine (hC _).mono ?_); rintro e w3 ⟨rfl, b3⟩; (have H3 := H2.below b3 (by omega)); (have P3 := P2.below b3 (by omega)); (have J3 := J2.below b3 J2.lt)))
        | (go_at_call 18; ((with_reducible refine (hr _).mono ?_); rintro e w1 ⟨rfl, rfl⟩))
        | (refine wpl_loadf (by rfl) 3 _ (by rfl) w.heap.size 2 (by rfl) _ _ P3 _ rfl _ Try.underlying3 rfl ?_) | (refine wpl_loadf (by rfl) 3 _ (by rfl) g 1 (by rfl) _ _ H3 _ rfl _ Try.underlying3 rfl ?_) | (refine wpl_loadf (by rfl) 4 _ (by rfl) g 3 (by rfl) _ _ H3 _ rfl _ Try.underlying4 rfl ?_)
        | (refine wpl_store (by rfl) 51 _ _ (by rfl) w1.heap.size (by rfl) _ (by rfl) _ rfl 51 _ J3 (by rfl) _ sizeHeard (by rfl) (by simp [Value.oneCell']) ?_; intro w4 J4 s4 g4))
      all_goals
        have B3 : Below w.heap.size w w3 := (b1.trans (b2.mono (by omega))).trans (b3.mono (by have := b2.size; omega))
        have z3 := b3.size
        have q1 := P3.cell (i := 10) rfl
        have q2 := H3.cell (i := 2) rfl
        go_region_held3 (fun w' => w'.cell? ⟨w.heap.size, 10, none⟩ = some (.int .u64 org) ∧ w'.cell? ⟨g, 2, none⟩ = some (.int .u64 nc)) (exact ⟨q1, q2⟩) (fail)
        clear q1 q2
        have H5 := H3.drew
        have P5 := P3.drew
        have J5 := J3.drew
        have b5 := Below.drew B3
        have z5 : w2.heap.size ≤ w3.drew.heap.size := z3
        generalize w3.drew = w5 at H5 P5 J5 b5 z5 ⊢
        clear H3 P3 J3 b3 B3 z3
        go_wp2_with fail
        have q1 := P5.cell (i := 12) rfl
        have q2 := H5.cell (i := 3 + 1) rfl
        go_region_held3 (fun w' => w'.cell? ⟨w.heap.size, 12, none⟩ = some (.int .u64 xmt) ∧ w'.cell? ⟨g, 4, none⟩ = some (.int .u64 lx)) (exact ⟨q1, q2⟩) (fail)
        clear q1 q2
        have J6 := J5.drew
        have b6 := Below.drew b5
        have z6 : w2.heap.size ≤ w5.drew.heap.size := z5
        generalize w5.drew = w6 at J6 b6 z6 ⊢
        clear H5 P5 J5 b5 z5
        have b5 := b6
        have z5 := z6
        have J5 := J6
        clear b6 z6 J6
        go_wp2_with (first | (refine wpl_store (by rfl) 51 _ _ (by rfl) w1.heap.size (by rfl) _ (by rfl) _ rfl 51 _ J5 (by rfl) _ sizeHeard (by rfl) (by simp [Value.oneCell']) ?_; intro w4 J4 s4 g4))
        obtain ⟨k0, k1, k2, k3, k4, k5⟩ := cells6 J4
        refine bodyPost_ret (v := .tuple #[.agg (hdL 0 ⟨#[]⟩ 0 0 0 0).toArray, .bool false]) (by simp [results, Try.results36, go_sem, k0, k1, k2, k3, k4, k5]) rfl ?_
        exact ⟨rfl, b5.trans (g4.below (by omega) (by omega))⟩
end Go.Proofs.Ytdnmjeapihjabaa
