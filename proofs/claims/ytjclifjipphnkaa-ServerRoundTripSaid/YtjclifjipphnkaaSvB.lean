/- What server.Reply and its reference compute. -/
import Derived.Test.YtjclifjipphnkaaSvA
namespace Go.Proofs.Ytjclifjipphnkaa
open Go.RowKit
set_option linter.unusedSimpArgs false
set_option linter.unusedVariables false
set_option maxRecDepth 100000
theorem sizeRoot : (Try.prog.info? 29).map (·.size) = some 4 := by kernel_rfl
abbrev rtL (s d p r : Int) : List Value := [.int .i64 s, .int .i64 d, .int .i64 p, .int .u32 r]
abbrev ntp0 : Value := ntp 0 0 0 0 0 0 0 0 0 0 0 0 0
/-- are the leap indicator, the precision and the root right? -/
def rgB (lp pc s d p : Int) : Bool := decide (0 ≤ lp ∧ lp ≤ 3 ∧ -128 ≤ pc ∧ pc ≤ 127 ∧ chk s d p = 0)
def rpE (K m s d p lp pc : Int) : Int := if rgB lp pc s d p = true then rqE K m else 2
set_option maxHeartbeats 2000000 in
theorem checkReply_ok (l v m st po pr rd rp id ref org rec xmt s d p r lp pc : Int) (w : World) (h : rgB lp pc s d p = true) : Calls Try.prog 28 #[ntp l v m st po pr rd rp id ref org rec xmt, root s d p r, .int .i64 lp, .int .i64 pc] w fun e w' => e = .returned (.int .i64 (rqE (nchk l v m st po pr) m)) ∧ Below w.heap.size w w' := by
  have hQ := fun W => checkRequest_any l v m st po pr rd rp id ref org rec xmt W
  have hC := fun W => check_any s d p r W
  obtain ⟨h1, h2, h3, h4, h5⟩ := of_decide_eq_true h
  simp only [h5] at hC
  generalize rqE (nchk l v m st po pr) m = E at hQ ⊢
  clear h h5
  go_enter Try.func28, Try.ntmps28
  go_wp2_with (first
    | (refine wpl_box (by rfl) 25 _ (by rfl) _ ([.int .i64 l, .int .i64 v, .int .i64 m, .int .i64 st, .int .i64 po, .int .i64 pr, .int .u32 rd, .int .u32 rp, .int .u32 id, .int .u64 ref, .int .u64 org, .int .u64 rec, .int .u64 xmt]) (by rfl) rfl ?_; intro w1 P1 s1 b1)
    | ((refine wpl_box (by rfl) 29 _ (by rfl) _ (rtL s d p r) (by rfl) rfl ?_; intro w2 R2 s2 b2); (have P2 := P1.below b2 (by omega)))
    | (refine wpl_load (by rfl) 29 _ (by rfl) w1.heap.size (by rfl) 29 _ R2 _ Try.underlying29 rfl _ sizeRoot (by rfl) ?_)
    | (go_at_call 33; ((with_reducible refine (hC _).mono ?_); rintro e w3 ⟨rfl, b3⟩; (have P3 := P2.below b3 (by omega)); (have z3 := b3.size)))
    | (refine wpl_load (by rfl) 25 _ (by rfl) w.heap.size (by rfl) 25 _ P3 _ Try.underlying25 rfl _ sizeNtp (by rfl) ?_)
    | (go_at_call 35; ((with_reducible refine (hQ _).mono ?_); rintro e w4 ⟨rfl, b4⟩)))
  go_ret
  exact ⟨rfl, ((b1.trans (b2.mono (by omega))).trans (b3.mono (by omega))).trans (b4.mono (by omega))⟩
set_option maxHeartbeats 2000000 in
theorem checkReply_no (l v m st po pr rd rp id ref org rec xmt s d p r lp pc : Int) (w : World) (h : rgB lp pc s d p = false) : Calls Try.prog 28 #[ntp l v m st po pr rd rp id ref org rec xmt, root s d p r, .int .i64 lp, .int .i64 pc] w fun e w' => e = .returned (.int .i64 2) ∧ Below w.heap.size w w' := by
  have hQ : True := trivial
  have hC := fun W => check_any s d p r W
  have hn := of_decide_eq_false h
  by_cases h1 : lp < 0
  · clear h hn
    go_enter Try.func28, Try.ntmps28
    go_wp2_with (first
      | (refine wpl_box (by rfl) 25 _ (by rfl) _ ([.int .i64 l, .int .i64 v, .int .i64 m, .int .i64 st, .int .i64 po, .int .i64 pr, .int .u32 rd, .int .u32 rp, .int .u32 id, .int .u64 ref, .int .u64 org, .int .u64 rec, .int .u64 xmt]) (by rfl) rfl ?_; intro w1 P1 s1 b1)
      | ((refine wpl_box (by rfl) 29 _ (by rfl) _ (rtL s d p r) (by rfl) rfl ?_; intro w2 R2 s2 b2); (have P2 := P1.below b2 (by omega)))
      | (refine wpl_load (by rfl) 29 _ (by rfl) w1.heap.size (by rfl) 29 _ R2 _ Try.underlying29 rfl _ sizeRoot (by rfl) ?_)
      | (go_at_call 33; ((with_reducible refine (hC _).mono ?_); rintro e w3 ⟨rfl, b3⟩; (have P3 := P2.below b3 (by omega)); (have z3 := b3.size)))
      | (refine wpl_load (by rfl) 25 _ (by rfl) w.heap.size (by rfl) 25 _ P3 _ Try.underlying25 rfl _ sizeNtp (by rfl) ?_)
      | (go_at_call 35; ((with_reducible refine (hQ _).mono ?_); rintro e w4 ⟨rfl, b4⟩)))
    go_ret
    exact ⟨rfl, b1.trans (b2.mono (by omega))⟩
  · by_cases h2 : 3 < lp
    · clear h hn
      go_enter Try.func28, Try.ntmps28
      go_wp2_with (first
        | (refine wpl_box (by rfl) 25 _ (by rfl) _ ([.int .i64 l, .int .i64 v, .int .i64 m, .int .i64 st, .int .i64 po, .int .i64 pr, .int .u32 rd, .int .u32 rp, .int .u32 id, .int .u64 ref, .int .u64 org, .int .u64 rec, .int .u64 xmt]) (by rfl) rfl ?_; intro w1 P1 s1 b1)
        | ((refine wpl_box (by rfl) 29 _ (by rfl) _ (rtL s d p r) (by rfl) rfl ?_; intro w2 R2 s2 b2); (have P2 := P1.below b2 (by omega)))
        | (refine wpl_load (by rfl) 29 _ (by rfl) w1.heap.size (by rfl) 29 _ R2 _ Try.underlying29 rfl _ sizeRoot (by rfl) ?_)
        | (go_at_call 33; ((with_reducible refine (hC _).mono ?_); rintro e w3 ⟨rfl, b3⟩; (have P3 := P2.below b3 (by omega)); (have z3 := b3.size)))
        | (refine wpl_load (by rfl) 25 _ (by rfl) w.heap.size (by rfl) 25 _ P3 _ Try.underlying25 rfl _ sizeNtp (by rfl) ?_)
        | (go_at_call 35; ((with_reducible refine (hQ _).mono ?_); rintro e w4 ⟨rfl, b4⟩)))
      go_ret
      exact ⟨rfl, b1.trans (b2.mono (by omega))⟩
    · by_cases h3 : pc < -128
      · clear h hn
        go_enter Try.func28, Try.ntmps28
        go_wp2_with (first
          | (refine wpl_box (by rfl) 25 _ (by rfl) _ ([.int .i64 l, .int .i64 v, .int .i64 m, .int .i64 st, .int .i64 po, .int .i64 pr, .int .u32 rd, .int .u32 rp, .int .u32 id, .int .u64 ref, .int .u64 org, .int .u64 rec, .int .u64 xmt]) (by rfl) rfl ?_; intro w1 P1 s1 b1)
          | ((refine wpl_box (by rfl) 29 _ (by rfl) _ (rtL s d p r) (by rfl) rfl ?_; intro w2 R2 s2 b2); (have P2 := P1.below b2 (by omega)))
          | (refine wpl_load (by rfl) 29 _ (by rfl) w1.heap.size (by rfl) 29 _ R2 _ Try.underlying29 rfl _ sizeRoot (by rfl) ?_)
          | (go_at_call 33; ((with_reducible refine (hC _).mono ?_); rintro e w3 ⟨rfl, b3⟩; (have P3 := P2.below b3 (by omega)); (have z3 := b3.size)))
          | (refine wpl_load (by rfl) 25 _ (by rfl) w.heap.size (by rfl) 25 _ P3 _ Try.underlying25 rfl _ sizeNtp (by rfl) ?_)
          | (go_at_call 35; ((with_reducible refine (hQ _).mono ?_); rintro e w4 ⟨rfl, b4⟩)))
        go_ret
        exact ⟨rfl, b1.trans (b2.mono (by omega))⟩
      · by_cases h4 : 127 < pc
        · clear h hn
          go_enter Try.func28, Try.ntmps28
          go_wp2_with (first
            | (refine wpl_box (by rfl) 25 _ (by rfl) _ ([.int .i64 l, .int .i64 v, .int .i64 m, .int .i64 st, .int .i64 po, .int .i64 pr, .int .u32 rd, .int .u32 rp, .int .u32 id, .int .u64 ref, .int .u64 org, .int .u64 rec, .int .u64 xmt]) (by rfl) rfl ?_; intro w1 P1 s1 b1)
            | ((refine wpl_box (by rfl) 29 _ (by rfl) _ (rtL s d p r) (by rfl) rfl ?_; intro w2 R2 s2 b2); (have P2 := P1.below b2 (by omega)))
            | (refine wpl_load (by rfl) 29 _ (by rfl) w1.heap.size (by rfl) 29 _ R2 _ Try.underlying29 rfl _ sizeRoot (by rfl) ?_)
            | (go_at_call 33; ((with_reducible refine (hC _).mono ?_); rintro e w3 ⟨rfl, b3⟩; (have P3 := P2.below b3 (by omega)); (have z3 := b3.size)))
            | (refine wpl_load (by rfl) 25 _ (by rfl) w.heap.size (by rfl) 25 _ P3 _ Try.underlying25 rfl _ sizeNtp (by rfl) ?_)
            | (go_at_call 35; ((with_reducible refine (hQ _).mono ?_); rintro e w4 ⟨rfl, b4⟩)))
          go_ret
          exact ⟨rfl, b1.trans (b2.mono (by omega))⟩
        · have h5 : (chk s d p != 0) = true := by
            simp
            intro h5
            exact hn ⟨by omega, by omega, by omega, by omega, h5⟩
          clear h hn
          go_enter Try.func28, Try.ntmps28
          go_wp2_with (first
            | (refine wpl_box (by rfl) 25 _ (by rfl) _ ([.int .i64 l, .int .i64 v, .int .i64 m, .int .i64 st, .int .i64 po, .int .i64 pr, .int .u32 rd, .int .u32 rp, .int .u32 id, .int .u64 ref, .int .u64 org, .int .u64 rec, .int .u64 xmt]) (by rfl) rfl ?_; intro w1 P1 s1 b1)
            | ((refine wpl_box (by rfl) 29 _ (by rfl) _ (rtL s d p r) (by rfl) rfl ?_; intro w2 R2 s2 b2); (have P2 := P1.below b2 (by omega)))
            | (refine wpl_load (by rfl) 29 _ (by rfl) w1.heap.size (by rfl) 29 _ R2 _ Try.underlying29 rfl _ sizeRoot (by rfl) ?_)
            | (go_at_call 33; ((with_reducible refine (hC _).mono ?_); rintro e w3 ⟨rfl, b3⟩; (have P3 := P2.below b3 (by omega)); (have z3 := b3.size)))
            | (refine wpl_load (by rfl) 25 _ (by rfl) w.heap.size (by rfl) 25 _ P3 _ Try.underlying25 rfl _ sizeNtp (by rfl) ?_)
            | (go_at_call 35; ((with_reducible refine (hQ _).mono ?_); rintro e w4 ⟨rfl, b4⟩)))
          go_ret
          exact ⟨rfl, (b1.trans (b2.mono (by omega))).trans (b3.mono (by omega))⟩
theorem checkReply_any (l v m st po pr rd rp id ref org rec xmt s d p r lp pc : Int) (w : World) : Calls Try.prog 28 #[ntp l v m st po pr rd rp id ref org rec xmt, root s d p r, .int .i64 lp, .int .i64 pc] w fun e w' => e = .returned (.int .i64 (rpE (nchk l v m st po pr) m s d p lp pc)) ∧ Below w.heap.size w w' := by
  cases h : rgB lp pc s d p with
  | true =>
    have hE : rpE (nchk l v m st po pr) m s d p lp pc = rqE (nchk l v m st po pr) m := by unfold rpE; rw [if_pos h]
    rw [hE]
    exact checkReply_ok l v m st po pr rd rp id ref org rec xmt s d p r lp pc w h
  | false =>
    have hE : rpE (nchk l v m st po pr) m s d p lp pc = 2 := by unfold rpE; rw [if_neg (by rw [h]; simp)]
    rw [hE]
    exact checkReply_no l v m st po pr rd rp id ref org rec xmt s d p r lp pc w h
/-- the error of a reply -/
def ryE (K m s d p lp pc : Int) : Int := if rpE K m s d p lp pc = 0 then fieldsErr s d p else rpE K m s d p lp pc
set_option maxHeartbeats 4000000 in
theorem reply_err (l v m st po pr rd rp id ref org rec xmt tr tx tf s d p r lp pc : Int) (w : World) (h : rpE (nchk l v m st po pr) m s d p lp pc ≠ 0) : Calls Try.prog 9 #[ntp l v m st po pr rd rp id ref org rec xmt, .int .u64 tr, .int .u64 tx, .int .u64 tf, root s d p r, .int .i64 lp, .int .i64 pc] w fun e w' => e = .returned (.tuple #[ntp0, .int .i64 (rpE (nchk l v m st po pr) m s d p lp pc)]) ∧ Below w.heap.size w w' := by
  have hC := fun W => checkReply_any l v m st po pr rd rp id ref org rec xmt s d p r lp pc W
  have hF : True := trivial
  generalize rpE (nchk l v m st po pr) m s d p lp pc = E at hC h ⊢
  have h' : (E != 0) = true := by simpa using h
  clear h
  go_enter Try.func9, Try.ntmps9
  go_wp2_with (first
    | (refine wpl_box (by rfl) 25 _ (by rfl) _ ([.int .i64 l, .int .i64 v, .int .i64 m, .int .i64 st, .int .i64 po, .int .i64 pr, .int .u32 rd, .int .u32 rp, .int .u32 id, .int .u64 ref, .int .u64 org, .int .u64 rec, .int .u64 xmt]) (by rfl) rfl ?_; intro w1 P1 s1 b1)
    | ((refine wpl_box (by rfl) 29 _ (by rfl) _ (rtL s d p r) (by rfl) rfl ?_; intro w2 R2 s2 b2); (have P2 := P1.below b2 (by omega)))
    | ((refine wpl_alloc (by rfl) 25 (by rfl) (.agg (zN).toArray) (zN) zeroNtp rfl ?_; intro w3 J3 s3 b3); (have P3 := P2.below b3 (by omega)); (have R3 := R2.below b3 (by omega)))
    | (refine wpl_load (by rfl) 25 _ (by rfl) w.heap.size (by rfl) 25 _ P3 _ Try.underlying25 rfl _ sizeNtp (by rfl) ?_) | (refine wpl_load (by rfl) 29 _ (by rfl) w1.heap.size (by rfl) 29 _ R3 _ Try.underlying29 rfl _ sizeRoot (by rfl) ?_)
    | (go_at_call 28; ((with_reducible refine (hC _).mono ?_); rintro e w4 ⟨rfl, b4⟩; (have P4 := P3.below b4 (by omega)); (have R4 := R3.below b4 (by omega)); (have J4 := J3.below b4 (by omega)); (have z4 := b4.size)))
    | (refine wpl_load (by rfl) 29 _ (by rfl) w1.heap.size (by rfl) 29 _ R4 _ Try.underlying29 rfl _ sizeRoot (by rfl) ?_)
    | (go_at_call 12; ((with_reducible refine (hF _).mono ?_); rintro e w5 ⟨rfl, b5⟩; (have P5 := P4.below b5 (by omega)); (have R5 := R4.below b5 (by omega)); (have J5 := J4.below b5 (by omega)); (have z5 := b5.size)))
    | (refine wpl_loadf (by rfl) 3 _ (by rfl) w1.heap.size 0 (by rfl) _ _ R5 _ rfl _ Try.underlying3 rfl ?_) | (refine wpl_loadf (by rfl) 22 _ (by rfl) w1.heap.size 3 (by rfl) _ _ R5 _ rfl _ Try.underlying22 rfl ?_)
    | (refine wpl_loadf (by rfl) 3 _ (by rfl) w.heap.size 1 (by rfl) _ _ P5 _ rfl _ Try.underlying3 rfl ?_) | (refine wpl_loadf (by rfl) 3 _ (by rfl) w.heap.size 4 (by rfl) _ _ P5 _ rfl _ Try.underlying3 rfl ?_) | (refine wpl_loadf (by rfl) 23 _ (by rfl) w.heap.size 12 (by rfl) _ _ P5 _ rfl _ Try.underlying23 rfl ?_)
    | (refine wpl_store (by rfl) 25 _ _ (by rfl) w2.heap.size (by rfl) _ (by rfl) _ rfl 25 _ J5 (by rfl) _ sizeNtp (by rfl) (by simp [Value.oneCell']) ?_; intro w6 J6 s6 g6)
    | (refine wpl_store (by rfl) 25 _ _ (by rfl) w2.heap.size (by rfl) _ (by rfl) _ rfl 25 _ J4 (by rfl) _ sizeNtp (by rfl) (by simp [Value.oneCell']) ?_; intro w6 J6 s6 g6))
  obtain ⟨k0, k1, k2, k3, k4, k5, k6, k7, k8, k9, k10, k11, k12⟩ := cells13 J6
  refine bodyPost_ret (v := .tuple #[ntp0, .int .i64 E]) (by simp [results, Try.results9, go_sem, k0, k1, k2, k3, k4, k5, k6, k7, k8, k9, k10, k11, k12]) rfl ?_
  exact ⟨rfl, (((b1.trans (b2.mono (by omega))).trans (b3.mono (by omega))).trans (b4.mono (by omega))).trans (g6.below (by omega) (by omega))⟩
set_option maxHeartbeats 4000000 in
theorem reply_fe (l v m st po pr rd rp id ref org rec xmt tr tx tf s d p r lp pc : Int) (w : World) (h : rpE (nchk l v m st po pr) m s d p lp pc = 0) (hf : fieldsErr s d p = 3) : Calls Try.prog 9 #[ntp l v m st po pr rd rp id ref org rec xmt, .int .u64 tr, .int .u64 tx, .int .u64 tf, root s d p r, .int .i64 lp, .int .i64 pc] w fun e w' => e = .returned (.tuple #[ntp0, .int .i64 3]) ∧ Below w.heap.size w w' := by
  have hC := fun W => checkReply_any l v m st po pr rd rp id ref org rec xmt s d p r lp pc W
  have hF := fun W => fields_any s d p r W
  simp only [h] at hC
  simp only [hf] at hF
  clear h hf
  go_enter Try.func9, Try.ntmps9
  go_wp2_with (first
    | (refine wpl_box (by rfl) 25 _ (by rfl) _ ([.int .i64 l, .int .i64 v, .int .i64 m, .int .i64 st, .int .i64 po, .int .i64 pr, .int .u32 rd, .int .u32 rp, .int .u32 id, .int .u64 ref, .int .u64 org, .int .u64 rec, .int .u64 xmt]) (by rfl) rfl ?_; intro w1 P1 s1 b1)
    | ((refine wpl_box (by rfl) 29 _ (by rfl) _ (rtL s d p r) (by rfl) rfl ?_; intro w2 R2 s2 b2); (have P2 := P1.below b2 (by omega)))
    | ((refine wpl_alloc (by rfl) 25 (by rfl) (.agg (zN).toArray) (zN) zeroNtp rfl ?_; intro w3 J3 s3 b3); (have P3 := P2.below b3 (by omega)); (have R3 := R2.below b3 (by omega)))
    | (refine wpl_load (by rfl) 25 _ (by rfl) w.heap.size (by rfl) 25 _ P3 _ Try.underlying25 rfl _ sizeNtp (by rfl) ?_) | (refine wpl_load (by rfl) 29 _ (by rfl) w1.heap.size (by rfl) 29 _ R3 _ Try.underlying29 rfl _ sizeRoot (by rfl) ?_)
    | (go_at_call 28; ((with_reducible refine (hC _).mono ?_); rintro e w4 ⟨rfl, b4⟩; (have P4 := P3.below b4 (by omega)); (have R4 := R3.below b4 (by omega)); (have J4 := J3.below b4 (by omega)); (have z4 := b4.size)))
    | (refine wpl_load (by rfl) 29 _ (by rfl) w1.heap.size (by rfl) 29 _ R4 _ Try.underlying29 rfl _ sizeRoot (by rfl) ?_)
    | (go_at_call 12; ((with_reducible refine (hF _).mono ?_); rintro e w5 ⟨rfl, b5⟩; (have P5 := P4.below b5 (by omega)); (have R5 := R4.below b5 (by omega)); (have J5 := J4.below b5 (by omega)); (have z5 := b5.size)))
    | (refine wpl_loadf (by rfl) 3 _ (by rfl) w1.heap.size 0 (by rfl) _ _ R5 _ rfl _ Try.underlying3 rfl ?_) | (refine wpl_loadf (by rfl) 22 _ (by rfl) w1.heap.size 3 (by rfl) _ _ R5 _ rfl _ Try.underlying22 rfl ?_)
    | (refine wpl_loadf (by rfl) 3 _ (by rfl) w.heap.size 1 (by rfl) _ _ P5 _ rfl _ Try.underlying3 rfl ?_) | (refine wpl_loadf (by rfl) 3 _ (by rfl) w.heap.size 4 (by rfl) _ _ P5 _ rfl _ Try.underlying3 rfl ?_) | (refine wpl_loadf (by rfl) 23 _ (by rfl) w.heap.size 12 (by rfl) _ _ P5 _ rfl _ Try.underlying23 rfl ?_)
    | (refine wpl_store (by rfl) 25 _ _ (by rfl) w2.heap.size (by rfl) _ (by rfl) _ rfl 25 _ J5 (by rfl) _ sizeNtp (by rfl) (by simp [Value.oneCell']) ?_; intro w6 J6 s6 g6)
    | (refine wpl_store (by rfl) 25 _ _ (by rfl) w2.heap.size (by rfl) _ (by rfl) _ rfl 25 _ J4 (by rfl) _ sizeNtp (by rfl) (by simp [Value.oneCell']) ?_; intro w6 J6 s6 g6))
  obtain ⟨k0, k1, k2, k3, k4, k5, k6, k7, k8, k9, k10, k11, k12⟩ := cells13 J6
  refine bodyPost_ret (v := .tuple #[ntp0, .int .i64 3]) (by simp [results, Try.results9, go_sem, k0, k1, k2, k3, k4, k5, k6, k7, k8, k9, k10, k11, k12]) rfl ?_
  exact ⟨rfl, ((((b1.trans (b2.mono (by omega))).trans (b3.mono (by omega))).trans (b4.mono (by omega))).trans (b5.mono (by omega))).trans (g6.below (by omega) (by omega))⟩
/-- the leap indicator and the stratum of a reply -/
def ryL (s lp : Int) : Int := if s = 16 then 3 else lp
def ryS (s : Int) : Int := if s = 16 then 0 else s
abbrev ryN (v po xmt tr tx tf s d p r lp pc : Int) : Value := ntp (ryL s lp) v 4 (ryS s) po pc (shortN d) (shortN p) r tf xmt tr tx
set_option maxHeartbeats 4000000 in
theorem reply_ok (l v m st po pr rd rp id ref org rec xmt tr tx tf s d p r lp pc : Int) (w : World) (h : rpE (nchk l v m st po pr) m s d p lp pc = 0) (hf : fieldsErr s d p = 0) : Calls Try.prog 9 #[ntp l v m st po pr rd rp id ref org rec xmt, .int .u64 tr, .int .u64 tx, .int .u64 tf, root s d p r, .int .i64 lp, .int .i64 pc] w fun e w' => e = .returned (.tuple #[ryN v po xmt tr tx tf s d p r lp pc, .int .i64 0]) ∧ Below w.heap.size w w' := by
  have hC := fun W => checkReply_any l v m st po pr rd rp id ref org rec xmt s d p r lp pc W
  have hF := fun W => fields_any s d p r W
  simp only [h] at hC
  simp only [hf, z0_zero] at hF
  clear h hf
  simp only [ryN]
  generalize shortN d = D at hF ⊢
  generalize shortN p = Q at hF ⊢
  by_cases hs : s = 16
  · have hl : ryL s lp = 3 := if_pos hs
    have hS : ryS s = 0 := if_pos hs
    have hs' : (s == 16) = true := by simpa using hs
    rw [hl, hS]
    clear hl hS hs
    go_enter Try.func9, Try.ntmps9
    go_wp2_with (first
      | (refine wpl_box (by rfl) 25 _ (by rfl) _ ([.int .i64 l, .int .i64 v, .int .i64 m, .int .i64 st, .int .i64 po, .int .i64 pr, .int .u32 rd, .int .u32 rp, .int .u32 id, .int .u64 ref, .int .u64 org, .int .u64 rec, .int .u64 xmt]) (by rfl) rfl ?_; intro w1 P1 s1 b1)
      | ((refine wpl_box (by rfl) 29 _ (by rfl) _ (rtL s d p r) (by rfl) rfl ?_; intro w2 R2 s2 b2); (have P2 := P1.below b2 (by omega)))
      | ((refine wpl_alloc (by rfl) 25 (by rfl) (.agg (zN).toArray) (zN) zeroNtp rfl ?_; intro w3 J3 s3 b3); (have P3 := P2.below b3 (by omega)); (have R3 := R2.below b3 (by omega)))
      | (refine wpl_load (by rfl) 25 _ (by rfl) w.heap.size (by rfl) 25 _ P3 _ Try.underlying25 rfl _ sizeNtp (by rfl) ?_) | (refine wpl_load (by rfl) 29 _ (by rfl) w1.heap.size (by rfl) 29 _ R3 _ Try.underlying29 rfl _ sizeRoot (by rfl) ?_)
      | (go_at_call 28; ((with_reducible refine (hC _).mono ?_); rintro e w4 ⟨rfl, b4⟩; (have P4 := P3.below b4 (by omega)); (have R4 := R3.below b4 (by omega)); (have J4 := J3.below b4 (by omega)); (have z4 := b4.size)))
      | (refine wpl_load (by rfl) 29 _ (by rfl) w1.heap.size (by rfl) 29 _ R4 _ Try.underlying29 rfl _ sizeRoot (by rfl) ?_)
      | (go_at_call 12; ((with_reducible refine (hF _).mono ?_); rintro e w5 ⟨rfl, b5⟩; (have P5 := P4.below b5 (by omega)); (have R5 := R4.below b5 (by omega)); (have J5 := J4.below b5 (by omega)); (have z5 := b5.size)))
      | (refine wpl_loadf (by rfl) 3 _ (by rfl) w1.heap.size 0 (by rfl) _ _ R5 _ rfl _ Try.underlying3 rfl ?_) | (refine wpl_loadf (by rfl) 22 _ (by rfl) w1.heap.size 3 (by rfl) _ _ R5 _ rfl _ Try.underlying22 rfl ?_)
      | (refine wpl_loadf (by rfl) 3 _ (by rfl) w.heap.size 1 (by rfl) _ _ P5 _ rfl _ Try.underlying3 rfl ?_) | (refine wpl_loadf (by rfl) 3 _ (by rfl) w.heap.size 4 (by rfl) _ _ P5 _ rfl _ Try.underlying3 rfl ?_) | (refine wpl_loadf (by rfl) 23 _ (by rfl) w.heap.size 12 (by rfl) _ _ P5 _ rfl _ Try.underlying23 rfl ?_)
      | (refine wpl_store (by rfl) 25 _ _ (by rfl) w2.heap.size (by rfl) _ (by rfl) _ rfl 25 _ J5 (by rfl) _ sizeNtp (by rfl) (by simp [Value.oneCell']) ?_; intro w6 J6 s6 g6)
      | (refine wpl_store (by rfl) 25 _ _ (by rfl) w2.heap.size (by rfl) _ (by rfl) _ rfl 25 _ J4 (by rfl) _ sizeNtp (by rfl) (by simp [Value.oneCell']) ?_; intro w6 J6 s6 g6))
    obtain ⟨k0, k1, k2, k3, k4, k5, k6, k7, k8, k9, k10, k11, k12⟩ := cells13 J6
    refine bodyPost_ret (v := .tuple #[ntp 3 v 4 0 po pc D Q r tf xmt tr tx, .int .i64 0]) (by simp [results, Try.results9, go_sem, k0, k1, k2, k3, k4, k5, k6, k7, k8, k9, k10, k11, k12]) rfl ?_
    exact ⟨rfl, ((((b1.trans (b2.mono (by omega))).trans (b3.mono (by omega))).trans (b4.mono (by omega))).trans (b5.mono (by omega))).trans (g6.below (by omega) (by omega))⟩
  · have hl : ryL s lp = lp := if_neg hs
    have hS : ryS s = s := if_neg hs
    have hs' : (s == 16) = false := by simpa using hs
    rw [hl, hS]
    clear hl hS hs
    go_enter Try.func9, Try.ntmps9
    go_wp2_with (first
      | (refine wpl_box (by rfl) 25 _ (by rfl) _ ([.int .i64 l, .int .i64 v, .int .i64 m, .int .i64 st, .int .i64 po, .int .i64 pr, .int .u32 rd, .int .u32 rp, .int .u32 id, .int .u64 ref, .int .u64 org, .int .u64 rec, .int .u64 xmt]) (by rfl) rfl ?_; intro w1 P1 s1 b1)
      | ((refine wpl_box (by rfl) 29 _ (by rfl) _ (rtL s d p r) (by rfl) rfl ?_; intro w2 R2 s2 b2); (have P2 := P1.below b2 (by omega)))
      | ((refine wpl_alloc (by rfl) 25 (by rfl) (.agg (zN).toArray) (zN) zeroNtp rfl ?_; intro w3 J3 s3 b3); (have P3 := P2.below b3 (by omega)); (have R3 := R2.below b3 (by omega)))
      | (refine wpl_load (by rfl) 25 _ (by rfl) w.heap.size (by rfl) 25 _ P3 _ Try.underlying25 rfl _ sizeNtp (by rfl) ?_) | (refine wpl_load (by rfl) 29 _ (by rfl) w1.heap.size (by rfl) 29 _ R3 _ Try.underlying29 rfl _ sizeRoot (by rfl) ?_)
      | (go_at_call 28; ((with_reducible refine (hC _).mono ?_); rintro e w4 ⟨rfl, b4⟩; (have P4 := P3.below b4 (by omega)); (have R4 := R3.below b4 (by omega)); (have J4 := J3.below b4 (by omega)); (have z4 := b4.size)))
      | (refine wpl_load (by rfl) 29 _ (by rfl) w1.heap.size (by rfl) 29 _ R4 _ Try.underlying29 rfl _ sizeRoot (by rfl) ?_)
      | (go_at_call 12; ((with_reducible refine (hF _).mono ?_); rintro e w5 ⟨rfl, b5⟩; (have P5 := P4.below b5 (by omega)); (have R5 := R4.below b5 (by omega)); (have J5 := J4.below b5 (by omega)); (have z5 := b5.size)))
      | (refine wpl_loadf (by rfl) 3 _ (by rfl) w1.heap.size 0 (by rfl) _ _ R5 _ rfl _ Try.underlying3 rfl ?_) | (refine wpl_loadf (by rfl) 22 _ (by rfl) w1.heap.size 3 (by rfl) _ _ R5 _ rfl _ Try.underlying22 rfl ?_)
      | (refine wpl_loadf (by rfl) 3 _ (by rfl) w.heap.size 1 (by rfl) _ _ P5 _ rfl _ Try.underlying3 rfl ?_) | (refine wpl_loadf (by rfl) 3 _ (by rfl) w.heap.size 4 (by rfl) _ _ P5 _ rfl _ Try.underlying3 rfl ?_) | (refine wpl_loadf (by rfl) 23 _ (by rfl) w.heap.size 12 (by rfl) _ _ P5 _ rfl _ Try.underlying23 rfl ?_)
      | (refine wpl_store (by rfl) 25 _ _ (by rfl) w2.heap.size (by rfl) _ (by rfl) _ rfl 25 _ J5 (by rfl) _ sizeNtp (by rfl) (by simp [Value.oneCell']) ?_; intro w6 J6 s6 g6)
      | (refine wpl_store (by rfl) 25 _ _ (by rfl) w2.heap.size (by rfl) _ (by rfl) _ rfl 25 _ J4 (by rfl) _ sizeNtp (by rfl) (by simp [Value.oneCell']) ?_; intro w6 J6 s6 g6))
    obtain ⟨k0, k1, k2, k3, k4, k5, k6, k7, k8, k9, k10, k11, k12⟩ := cells13 J6
    refine bodyPost_ret (v := .tuple #[ntp lp v 4 s po pc D Q r tf xmt tr tx, .int .i64 0]) (by simp [results, Try.results9, go_sem, k0, k1, k2, k3, k4, k5, k6, k7, k8, k9, k10, k11, k12]) rfl ?_
    exact ⟨rfl, ((((b1.trans (b2.mono (by omega))).trans (b3.mono (by omega))).trans (b4.mono (by omega))).trans (b5.mono (by omega))).trans (g6.below (by omega) (by omega))⟩
/-! ### the reference -/
set_option maxHeartbeats 4000000 in
theorem rreply_bad (l v m st po pr rd rp id ref org rec xmt tr tx tf s d p r lp pc : Int) (w : World) (h : nchk l v m st po pr = 3 ∨ rgB lp pc s d p = false) : Calls Try.prog 10 #[ntp l v m st po pr rd rp id ref org rec xmt, .int .u64 tr, .int .u64 tx, .int .u64 tf, root s d p r, .int .i64 lp, .int .i64 pc] w fun e w' => e = .returned (.tuple #[ntp0, .int .i64 2]) ∧ Below w.heap.size w w' := by
  have hC := fun W => rnchk_any l v m st po pr rd rp id ref org rec xmt W
  have hK := fun W => rcheck_any s d p r W
  rcases nchk_03 l v m st po pr with hk | hk
  · simp only [hk] at hC
    have hg : rgB lp pc s d p = false := by rcases h with h | h; · omega
                                            · exact h
    have hn := of_decide_eq_false hg
    rcases chk_03 s d p with h5 | h5
    · simp only [h5] at hK
      have hn' : lp < 0 ∨ 3 < lp ∨ pc < -128 ∨ 127 < pc := by omega
      clear h hg hk hn h5
      by_cases h1 : lp < 0
      · clear hn'
        go_enter Try.func10, Try.ntmps10
        go_wp2_with (first
          | (refine wpl_box (by rfl) 25 _ (by rfl) _ ([.int .i64 l, .int .i64 v, .int .i64 m, .int .i64 st, .int .i64 po, .int .i64 pr, .int .u32 rd, .int .u32 rp, .int .u32 id, .int .u64 ref, .int .u64 org, .int .u64 rec, .int .u64 xmt]) (by rfl) rfl ?_; intro w1 P1 s1 b1)
          | ((refine wpl_box (by rfl) 29 _ (by rfl) _ (rtL s d p r) (by rfl) rfl ?_; intro w2 R2 s2 b2); (have P2 := P1.below b2 (by omega)))
          | ((refine wpl_alloc (by rfl) 25 (by rfl) (.agg (zN).toArray) (zN) zeroNtp rfl ?_; intro w3 J3 s3 b3); (have P3 := P2.below b3 (by omega)); (have R3 := R2.below b3 (by omega)))
          | (refine wpl_load (by rfl) 25 _ (by rfl) w.heap.size (by rfl) 25 _ P3 _ Try.underlying25 rfl _ sizeNtp (by rfl) ?_)
          | (go_at_call 29; ((with_reducible refine (hC _).mono ?_); rintro e w4 ⟨rfl, b4⟩; (have P4 := P3.below b4 (by omega)); (have R4 := R3.below b4 (by omega)); (have J4 := J3.below b4 (by omega)); (have z4 := b4.size)))
          | (refine wpl_load (by rfl) 29 _ (by rfl) w1.heap.size (by rfl) 29 _ R4 _ Try.underlying29 rfl _ sizeRoot (by rfl) ?_)
          | (go_at_call 30; ((with_reducible refine (hK _).mono ?_); rintro e w5 ⟨rfl, b5⟩; (have P5 := P4.below b5 (by omega)); (have R5 := R4.below b5 (by omega)); (have J5 := J4.below b5 (by omega)); (have z5 := b5.size))) | (refine wpl_store (by rfl) 25 _ _ (by rfl) w2.heap.size (by rfl) _ (by rfl) _ rfl 25 _ J5 (by rfl) _ sizeNtp (by rfl) (by simp [Value.oneCell']) ?_; intro w7 J7 s7 g7))
        obtain ⟨k0, k1, k2, k3, k4, k5, k6, k7, k8, k9, k10, k11, k12⟩ := cells13 J7
        refine bodyPost_ret (v := .tuple #[ntp0, .int .i64 2]) (by simp [results, Try.results10, go_sem, k0, k1, k2, k3, k4, k5, k6, k7, k8, k9, k10, k11, k12]) rfl ?_
        exact ⟨rfl, ((((b1.trans (b2.mono (by omega))).trans (b3.mono (by omega))).trans (b4.mono (by omega))).trans (b5.mono (by omega))).trans (g7.below (by omega) (by omega))⟩
      · by_cases h2 : 3 < lp
        · clear hn'
          go_enter Try.func10, Try.ntmps10
          go_wp2_with (first
            | (refine wpl_box (by rfl) 25 _ (by rfl) _ ([.int .i64 l, .int .i64 v, .int .i64 m, .int .i64 st, .int .i64 po, .int .i64 pr, .int .u32 rd, .int .u32 rp, .int .u32 id, .int .u64 ref, .int .u64 org, .int .u64 rec, .int .u64 xmt]) (by rfl) rfl ?_; intro w1 P1 s1 b1)
            | ((refine wpl_box (by rfl) 29 _ (by rfl) _ (rtL s d p r) (by rfl) rfl ?_; intro w2 R2 s2 b2); (have P2 := P1.below b2 (by omega)))
            | ((refine wpl_alloc (by rfl) 25 (by rfl) (.agg (zN).toArray) (zN) zeroNtp rfl ?_; intro w3 J3 s3 b3); (have P3 := P2.below b3 (by omega)); (have R3 := R2.below b3 (by omega)))
            | (refine wpl_load (by rfl) 25 _ (by rfl) w.heap.size (by rfl) 25 _ P3 _ Try.underlying25 rfl _ sizeNtp (by rfl) ?_)
            | (go_at_call 29; ((with_reducible refine (hC _).mono ?_); rintro e w4 ⟨rfl, b4⟩; (have P4 := P3.below b4 (by omega)); (have R4 := R3.below b4 (by omega)); (have J4 := J3.below b4 (by omega)); (have z4 := b4.size)))
            | (refine wpl_load (by rfl) 29 _ (by rfl) w1.heap.size (by rfl) 29 _ R4 _ Try.underlying29 rfl _ sizeRoot (by rfl) ?_)
            | (go_at_call 30; ((with_reducible refine (hK _).mono ?_); rintro e w5 ⟨rfl, b5⟩; (have P5 := P4.below b5 (by omega)); (have R5 := R4.below b5 (by omega)); (have J5 := J4.below b5 (by omega)); (have z5 := b5.size))) | (refine wpl_store (by rfl) 25 _ _ (by rfl) w2.heap.size (by rfl) _ (by rfl) _ rfl 25 _ J5 (by rfl) _ sizeNtp (by rfl) (by simp [Value.oneCell']) ?_; intro w7 J7 s7 g7))
          obtain ⟨k0, k1, k2, k3, k4, k5, k6, k7, k8, k9, k10, k11, k12⟩ := cells13 J7
          refine bodyPost_ret (v := .tuple #[ntp0, .int .i64 2]) (by simp [results, Try.results10, go_sem, k0, k1, k2, k3, k4, k5, k6, k7, k8, k9, k10, k11, k12]) rfl ?_
          exact ⟨rfl, ((((b1.trans (b2.mono (by omega))).trans (b3.mono (by omega))).trans (b4.mono (by omega))).trans (b5.mono (by omega))).trans (g7.below (by omega) (by omega))⟩
        · by_cases h3 : pc < -128
          · clear hn'
            go_enter Try.func10, Try.ntmps10
            go_wp2_with (first
              | (refine wpl_box (by rfl) 25 _ (by rfl) _ ([.int .i64 l, .int .i64 v, .int .i64 m, .int .i64 st, .int .i64 po, .int .i64 pr, .int .u32 rd, .int .u32 rp, .int .u32 id, .int .u64 ref, .int .u64 org, .int .u64 rec, .int .u64 xmt]) (by rfl) rfl ?_; intro w1 P1 s1 b1)
              | ((refine wpl_box (by rfl) 29 _ (by rfl) _ (rtL s d p r) (by rfl) rfl ?_; intro w2 R2 s2 b2); (have P2 := P1.below b2 (by omega)))
              | ((refine wpl_alloc (by rfl) 25 (by rfl) (.agg (zN).toArray) (zN) zeroNtp rfl ?_; intro w3 J3 s3 b3); (have P3 := P2.below b3 (by omega)); (have R3 := R2.below b3 (by omega)))
              | (refine wpl_load (by rfl) 25 _ (by rfl) w.heap.size (by rfl) 25 _ P3 _ Try.underlying25 rfl _ sizeNtp (by rfl) ?_)
              | (go_at_call 29; ((with_reducible refine (hC _).mono ?_); rintro e w4 ⟨rfl, b4⟩; (have P4 := P3.below b4 (by omega)); (have R4 := R3.below b4 (by omega)); (have J4 := J3.below b4 (by omega)); (have z4 := b4.size)))
              | (refine wpl_load (by rfl) 29 _ (by rfl) w1.heap.size (by rfl) 29 _ R4 _ Try.underlying29 rfl _ sizeRoot (by rfl) ?_)
              | (go_at_call 30; ((with_reducible refine (hK _).mono ?_); rintro e w5 ⟨rfl, b5⟩; (have P5 := P4.below b5 (by omega)); (have R5 := R4.below b5 (by omega)); (have J5 := J4.below b5 (by omega)); (have z5 := b5.size))) | (refine wpl_store (by rfl) 25 _ _ (by rfl) w2.heap.size (by rfl) _ (by rfl) _ rfl 25 _ J5 (by rfl) _ sizeNtp (by rfl) (by simp [Value.oneCell']) ?_; intro w7 J7 s7 g7))
            obtain ⟨k0, k1, k2, k3, k4, k5, k6, k7, k8, k9, k10, k11, k12⟩ := cells13 J7
            refine bodyPost_ret (v := .tuple #[ntp0, .int .i64 2]) (by simp [results, Try.results10, go_sem, k0, k1, k2, k3, k4, k5, k6, k7, k8, k9, k10, k11, k12]) rfl ?_
            exact ⟨rfl, ((((b1.trans (b2.mono (by omega))).trans (b3.mono (by omega))).trans (b4.mono (by omega))).trans (b5.mono (by omega))).trans (g7.below (by omega) (by omega))⟩
          · have h4 : 127 < pc := by omega
            clear hn'
            go_enter Try.func10, Try.ntmps10
            go_wp2_with (first
              | (refine wpl_box (by rfl) 25 _ (by rfl) _ ([.int .i64 l, .int .i64 v, .int .i64 m, .int .i64 st, .int .i64 po, .int .i64 pr, .int .u32 rd, .int .u32 rp, .int .u32 id, .int .u64 ref, .int .u64 org, .int .u64 rec, .int .u64 xmt]) (by rfl) rfl ?_; intro w1 P1 s1 b1)
              | ((refine wpl_box (by rfl) 29 _ (by rfl) _ (rtL s d p r) (by rfl) rfl ?_; intro w2 R2 s2 b2); (have P2 := P1.below b2 (by omega)))
              | ((refine wpl_alloc (by rfl) 25 (by rfl) (.agg (zN).toArray) (zN) zeroNtp rfl ?_; intro w3 J3 s3 b3); (have P3 := P2.below b3 (by omega)); (have R3 := R2.below b3 (by omega)))
              | (refine wpl_load (by rfl) 25 _ (by rfl) w.heap.size (by rfl) 25 _ P3 _ Try.underlying25 rfl _ sizeNtp (by rfl) ?_)
              | (go_at_call 29; ((with_reducible refine (hC _).mono ?_); rintro e w4 ⟨rfl, b4⟩; (have P4 := P3.below b4 (by omega)); (have R4 := R3.below b4 (by omega)); (have J4 := J3.below b4 (by omega)); (have z4 := b4.size)))
              | (refine wpl_load (by rfl) 29 _ (by rfl) w1.heap.size (by rfl) 29 _ R4 _ Try.underlying29 rfl _ sizeRoot (by rfl) ?_)
              | (go_at_call 30; ((with_reducible refine (hK _).mono ?_); rintro e w5 ⟨rfl, b5⟩; (have P5 := P4.below b5 (by omega)); (have R5 := R4.below b5 (by omega)); (have J5 := J4.below b5 (by omega)); (have z5 := b5.size))) | (refine wpl_store (by rfl) 25 _ _ (by rfl) w2.heap.size (by rfl) _ (by rfl) _ rfl 25 _ J5 (by rfl) _ sizeNtp (by rfl) (by simp [Value.oneCell']) ?_; intro w7 J7 s7 g7))
            obtain ⟨k0, k1, k2, k3, k4, k5, k6, k7, k8, k9, k10, k11, k12⟩ := cells13 J7
            refine bodyPost_ret (v := .tuple #[ntp0, .int .i64 2]) (by simp [results, Try.results10, go_sem, k0, k1, k2, k3, k4, k5, k6, k7, k8, k9, k10, k11, k12]) rfl ?_
            exact ⟨rfl, ((((b1.trans (b2.mono (by omega))).trans (b3.mono (by omega))).trans (b4.mono (by omega))).trans (b5.mono (by omega))).trans (g7.below (by omega) (by omega))⟩
    · simp only [h5] at hK
      clear h hg hk hn h5
      go_enter Try.func10, Try.ntmps10
      go_wp2_with (first
        | (refine wpl_box (by rfl) 25 _ (by rfl) _ ([.int .i64 l, .int .i64 v, .int .i64 m, .int .i64 st, .int .i64 po, .int .i64 pr, .int .u32 rd, .int .u32 rp, .int .u32 id, .int .u64 ref, .int .u64 org, .int .u64 rec, .int .u64 xmt]) (by rfl) rfl ?_; intro w1 P1 s1 b1)
        | ((refine wpl_box (by rfl) 29 _ (by rfl) _ (rtL s d p r) (by rfl) rfl ?_; intro w2 R2 s2 b2); (have P2 := P1.below b2 (by omega)))
        | ((refine wpl_alloc (by rfl) 25 (by rfl) (.agg (zN).toArray) (zN) zeroNtp rfl ?_; intro w3 J3 s3 b3); (have P3 := P2.below b3 (by omega)); (have R3 := R2.below b3 (by omega)))
        | (refine wpl_load (by rfl) 25 _ (by rfl) w.heap.size (by rfl) 25 _ P3 _ Try.underlying25 rfl _ sizeNtp (by rfl) ?_)
        | (go_at_call 29; ((with_reducible refine (hC _).mono ?_); rintro e w4 ⟨rfl, b4⟩; (have P4 := P3.below b4 (by omega)); (have R4 := R3.below b4 (by omega)); (have J4 := J3.below b4 (by omega)); (have z4 := b4.size)))
        | (refine wpl_load (by rfl) 29 _ (by rfl) w1.heap.size (by rfl) 29 _ R4 _ Try.underlying29 rfl _ sizeRoot (by rfl) ?_)
        | (go_at_call 30; ((with_reducible refine (hK _).mono ?_); rintro e w5 ⟨rfl, b5⟩; (have P5 := P4.below b5 (by omega)); (have R5 := R4.below b5 (by omega)); (have J5 := J4.below b5 (by omega)); (have z5 := b5.size))) | (refine wpl_store (by rfl) 25 _ _ (by rfl) w2.heap.size (by rfl) _ (by rfl) _ rfl 25 _ J5 (by rfl) _ sizeNtp (by rfl) (by simp [Value.oneCell']) ?_; intro w7 J7 s7 g7))
      obtain ⟨k0, k1, k2, k3, k4, k5, k6, k7, k8, k9, k10, k11, k12⟩ := cells13 J7
      refine bodyPost_ret (v := .tuple #[ntp0, .int .i64 2]) (by simp [results, Try.results10, go_sem, k0, k1, k2, k3, k4, k5, k6, k7, k8, k9, k10, k11, k12]) rfl ?_
      exact ⟨rfl, ((((b1.trans (b2.mono (by omega))).trans (b3.mono (by omega))).trans (b4.mono (by omega))).trans (b5.mono (by omega))).trans (g7.below (by omega) (by omega))⟩
  · simp only [hk] at hC
    clear h hk hK
    go_enter Try.func10, Try.ntmps10
    go_wp2_with (first
      | (refine wpl_box (by rfl) 25 _ (by rfl) _ ([.int .i64 l, .int .i64 v, .int .i64 m, .int .i64 st, .int .i64 po, .int .i64 pr, .int .u32 rd, .int .u32 rp, .int .u32 id, .int .u64 ref, .int .u64 org, .int .u64 rec, .int .u64 xmt]) (by rfl) rfl ?_; intro w1 P1 s1 b1)
      | ((refine wpl_box (by rfl) 29 _ (by rfl) _ (rtL s d p r) (by rfl) rfl ?_; intro w2 R2 s2 b2); (have P2 := P1.below b2 (by omega)))
      | ((refine wpl_alloc (by rfl) 25 (by rfl) (.agg (zN).toArray) (zN) zeroNtp rfl ?_; intro w3 J3 s3 b3); (have P3 := P2.below b3 (by omega)); (have R3 := R2.below b3 (by omega)))
      | (refine wpl_load (by rfl) 25 _ (by rfl) w.heap.size (by rfl) 25 _ P3 _ Try.underlying25 rfl _ sizeNtp (by rfl) ?_)
      | (go_at_call 29; ((with_reducible refine (hC _).mono ?_); rintro e w4 ⟨rfl, b4⟩; (have P4 := P3.below b4 (by omega)); (have R4 := R3.below b4 (by omega)); (have J4 := J3.below b4 (by omega)); (have z4 := b4.size)))
      | (refine wpl_store (by rfl) 25 _ _ (by rfl) w2.heap.size (by rfl) _ (by rfl) _ rfl 25 _ J4 (by rfl) _ sizeNtp (by rfl) (by simp [Value.oneCell']) ?_; intro w7 J7 s7 g7))
    obtain ⟨k0, k1, k2, k3, k4, k5, k6, k7, k8, k9, k10, k11, k12⟩ := cells13 J7
    refine bodyPost_ret (v := .tuple #[ntp0, .int .i64 2]) (by simp [results, Try.results10, go_sem, k0, k1, k2, k3, k4, k5, k6, k7, k8, k9, k10, k11, k12]) rfl ?_
    exact ⟨rfl, (((b1.trans (b2.mono (by omega))).trans (b3.mono (by omega))).trans (b4.mono (by omega))).trans (g7.below (by omega) (by omega))⟩
set_option maxHeartbeats 4000000 in
theorem rreply_kind (l v m st po pr rd rp id ref org rec xmt tr tx tf s d p r lp pc : Int) (w : World) (hk : nchk l v m st po pr = 0) (h : rgB lp pc s d p = true) (hm : (m != 3) = true) : Calls Try.prog 10 #[ntp l v m st po pr rd rp id ref org rec xmt, .int .u64 tr, .int .u64 tx, .int .u64 tf, root s d p r, .int .i64 lp, .int .i64 pc] w fun e w' => e = .returned (.tuple #[ntp0, .int .i64 8]) ∧ Below w.heap.size w w' := by
  have hC := fun W => rnchk_any l v m st po pr rd rp id ref org rec xmt W
  have hK := fun W => rcheck_any s d p r W
  obtain ⟨h1, h2, h3, h4, h5⟩ := of_decide_eq_true h
  simp only [hk] at hC
  simp only [h5] at hK
  clear hk h h5
  go_enter Try.func10, Try.ntmps10
  go_wp2_with (first
    | (refine wpl_box (by rfl) 25 _ (by rfl) _ ([.int .i64 l, .int .i64 v, .int .i64 m, .int .i64 st, .int .i64 po, .int .i64 pr, .int .u32 rd, .int .u32 rp, .int .u32 id, .int .u64 ref, .int .u64 org, .int .u64 rec, .int .u64 xmt]) (by rfl) rfl ?_; intro w1 P1 s1 b1)
    | ((refine wpl_box (by rfl) 29 _ (by rfl) _ (rtL s d p r) (by rfl) rfl ?_; intro w2 R2 s2 b2); (have P2 := P1.below b2 (by omega)))
    | ((refine wpl_alloc (by rfl) 25 (by rfl) (.agg (zN).toArray) (zN) zeroNtp rfl ?_; intro w3 J3 s3 b3); (have P3 := P2.below b3 (by omega)); (have R3 := R2.below b3 (by omega)))
    | (refine wpl_load (by rfl) 25 _ (by rfl) w.heap.size (by rfl) 25 _ P3 _ Try.underlying25 rfl _ sizeNtp (by rfl) ?_)
    | (go_at_call 29; ((with_reducible refine (hC _).mono ?_); rintro e w4 ⟨rfl, b4⟩; (have P4 := P3.below b4 (by omega)); (have R4 := R3.below b4 (by omega)); (have J4 := J3.below b4 (by omega)); (have z4 := b4.size)))
    | (refine wpl_load (by rfl) 29 _ (by rfl) w1.heap.size (by rfl) 29 _ R4 _ Try.underlying29 rfl _ sizeRoot (by rfl) ?_)
    | (go_at_call 30; ((with_reducible refine (hK _).mono ?_); rintro e w5 ⟨rfl, b5⟩; (have P5 := P4.below b5 (by omega)); (have R5 := R4.below b5 (by omega)); (have J5 := J4.below b5 (by omega)); (have z5 := b5.size))) | (refine wpl_loadf (by rfl) 3 _ (by rfl) w.heap.size 2 (by rfl) _ _ P5 _ rfl _ Try.underlying3 rfl ?_) | (refine wpl_store (by rfl) 25 _ _ (by rfl) w2.heap.size (by rfl) _ (by rfl) _ rfl 25 _ J5 (by rfl) _ sizeNtp (by rfl) (by simp [Value.oneCell']) ?_; intro w7 J7 s7 g7))
  obtain ⟨k0, k1, k2, k3, k4, k5, k6, k7, k8, k9, k10, k11, k12⟩ := cells13 J7
  refine bodyPost_ret (v := .tuple #[ntp0, .int .i64 8]) (by simp [results, Try.results10, go_sem, k0, k1, k2, k3, k4, k5, k6, k7, k8, k9, k10, k11, k12]) rfl ?_
  exact ⟨rfl, ((((b1.trans (b2.mono (by omega))).trans (b3.mono (by omega))).trans (b4.mono (by omega))).trans (b5.mono (by omega))).trans (g7.below (by omega) (by omega))⟩
set_option maxHeartbeats 4000000 in
theorem rreply_fe (l v m st po pr rd rp id ref org rec xmt tr tx tf s d p r lp pc : Int) (w : World) (hk : nchk l v m st po pr = 0) (h : rgB lp pc s d p = true) (hm : (m != 3) = false) (hf : fieldsErr s d p = 3) : Calls Try.prog 10 #[ntp l v m st po pr rd rp id ref org rec xmt, .int .u64 tr, .int .u64 tx, .int .u64 tf, root s d p r, .int .i64 lp, .int .i64 pc] w fun e w' => e = .returned (.tuple #[ntp0, .int .i64 3]) ∧ Below w.heap.size w w' := by
  have hC := fun W => rnchk_any l v m st po pr rd rp id ref org rec xmt W
  have hK := fun W => rcheck_any s d p r W
  have hF := fun W => rfields_any s d p r W
  obtain ⟨h1, h2, h3, h4, h5⟩ := of_decide_eq_true h
  simp only [hk] at hC
  simp only [h5] at hK
  simp only [hf] at hF
  clear hk h h5 hf
  go_enter Try.func10, Try.ntmps10
  go_wp2_with (first
    | (refine wpl_box (by rfl) 25 _ (by rfl) _ ([.int .i64 l, .int .i64 v, .int .i64 m, .int .i64 st, .int .i64 po, .int .i64 pr, .int .u32 rd, .int .u32 rp, .int .u32 id, .int .u64 ref, .int .u64 org, .int .u64 rec, .int .u64 xmt]) (by rfl) rfl ?_; intro w1 P1 s1 b1)
    | ((refine wpl_box (by rfl) 29 _ (by rfl) _ (rtL s d p r) (by rfl) rfl ?_; intro w2 R2 s2 b2); (have P2 := P1.below b2 (by omega)))
    | ((refine wpl_alloc (by rfl) 25 (by rfl) (.agg (zN).toArray) (zN) zeroNtp rfl ?_; intro w3 J3 s3 b3); (have P3 := P2.below b3 (by omega)); (have R3 := R2.below b3 (by omega)))
    | (refine wpl_load (by rfl) 25 _ (by rfl) w.heap.size (by rfl) 25 _ P3 _ Try.underlying25 rfl _ sizeNtp (by rfl) ?_)
    | (go_at_call 29; ((with_reducible refine (hC _).mono ?_); rintro e w4 ⟨rfl, b4⟩; (have P4 := P3.below b4 (by omega)); (have R4 := R3.below b4 (by omega)); (have J4 := J3.below b4 (by omega)); (have z4 := b4.size)))
    | (refine wpl_load (by rfl) 29 _ (by rfl) w1.heap.size (by rfl) 29 _ R4 _ Try.underlying29 rfl _ sizeRoot (by rfl) ?_)
    | (go_at_call 30; ((with_reducible refine (hK _).mono ?_); rintro e w5 ⟨rfl, b5⟩; (have P5 := P4.below b5 (by omega)); (have R5 := R4.below b5 (by omega)); (have J5 := J4.below b5 (by omega)); (have z5 := b5.size))) | (refine wpl_loadf (by rfl) 3 _ (by rfl) w.heap.size 2 (by rfl) _ _ P5 _ rfl _ Try.underlying3 rfl ?_)
    | (refine wpl_load (by rfl) 29 _ (by rfl) w1.heap.size (by rfl) 29 _ R5 _ Try.underlying29 rfl _ sizeRoot (by rfl) ?_)
    | (go_at_call 31; ((with_reducible refine (hF _).mono ?_); rintro e w6 ⟨rfl, b6⟩; (have P6 := P5.below b6 (by omega)); (have R6 := R5.below b6 (by omega)); (have J6 := J5.below b6 (by omega)); (have z6 := b6.size))) | (refine wpl_store (by rfl) 25 _ _ (by rfl) w2.heap.size (by rfl) _ (by rfl) _ rfl 25 _ J6 (by rfl) _ sizeNtp (by rfl) (by simp [Value.oneCell']) ?_; intro w7 J7 s7 g7))
  obtain ⟨k0, k1, k2, k3, k4, k5, k6, k7, k8, k9, k10, k11, k12⟩ := cells13 J7
  refine bodyPost_ret (v := .tuple #[ntp0, .int .i64 3]) (by simp [results, Try.results10, go_sem, k0, k1, k2, k3, k4, k5, k6, k7, k8, k9, k10, k11, k12]) rfl ?_
  exact ⟨rfl, (((((b1.trans (b2.mono (by omega))).trans (b3.mono (by omega))).trans (b4.mono (by omega))).trans (b5.mono (by omega))).trans (b6.mono (by omega))).trans (g7.below (by omega) (by omega))⟩
set_option maxHeartbeats 8000000 in
theorem rreply_ok (l v m st po pr rd rp id ref org rec xmt tr tx tf s d p r lp pc : Int) (w : World) (hk : nchk l v m st po pr = 0) (h : rgB lp pc s d p = true) (hm : (m != 3) = false) (hf : fieldsErr s d p = 0) : Calls Try.prog 10 #[ntp l v m st po pr rd rp id ref org rec xmt, .int .u64 tr, .int .u64 tx, .int .u64 tf, root s d p r, .int .i64 lp, .int .i64 pc] w fun e w' => e = .returned (.tuple #[ryN v po xmt tr tx tf s d p r lp pc, .int .i64 0]) ∧ Below w.heap.size w w' := by
  have hC := fun W => rnchk_any l v m st po pr rd rp id ref org rec xmt W
  have hK := fun W => rcheck_any s d p r W
  have hF := fun W => rfields_any s d p r W
  obtain ⟨h1, h2, h3, h4, h5⟩ := of_decide_eq_true h
  simp only [hk] at hC
  simp only [h5] at hK
  simp only [hf, z0_zero] at hF
  clear hk h h5 hf
  simp only [ryN]
  generalize shortN d = D at hF ⊢
  generalize shortN p = Q at hF ⊢
  by_cases hs : s = 16
  · have hl : ryL s lp = 3 := if_pos hs
    have hS : ryS s = 0 := if_pos hs
    have hs' : (s == 16) = true := by simpa using hs
    rw [hl, hS]
    clear hl hS hs
    go_enter Try.func10, Try.ntmps10
    go_wp2_with (first
      | (refine wpl_box (by rfl) 25 _ (by rfl) _ ([.int .i64 l, .int .i64 v, .int .i64 m, .int .i64 st, .int .i64 po, .int .i64 pr, .int .u32 rd, .int .u32 rp, .int .u32 id, .int .u64 ref, .int .u64 org, .int .u64 rec, .int .u64 xmt]) (by rfl) rfl ?_; intro w1 P1 s1 b1)
      | ((refine wpl_box (by rfl) 29 _ (by rfl) _ (rtL s d p r) (by rfl) rfl ?_; intro w2 R2 s2 b2); (have P2 := P1.below b2 (by omega)))
      | ((refine wpl_alloc (by rfl) 25 (by rfl) (.agg (zN).toArray) (zN) zeroNtp rfl ?_; intro w3 J3 s3 b3); (have P3 := P2.below b3 (by omega)); (have R3 := R2.below b3 (by omega)))
      | (refine wpl_load (by rfl) 25 _ (by rfl) w.heap.size (by rfl) 25 _ P3 _ Try.underlying25 rfl _ sizeNtp (by rfl) ?_)
      | (go_at_call 29; ((with_reducible refine (hC _).mono ?_); rintro e w4 ⟨rfl, b4⟩; (have P4 := P3.below b4 (by omega)); (have R4 := R3.below b4 (by omega)); (have J4 := J3.below b4 (by omega)); (have z4 := b4.size)))
      | (refine wpl_load (by rfl) 29 _ (by rfl) w1.heap.size (by rfl) 29 _ R4 _ Try.underlying29 rfl _ sizeRoot (by rfl) ?_)
      | (go_at_call 30; ((with_reducible refine (hK _).mono ?_); rintro e w5 ⟨rfl, b5⟩; (have P5 := P4.below b5 (by omega)); (have R5 := R4.below b5 (by omega)); (have J5 := J4.below b5 (by omega)); (have z5 := b5.size))) | (refine wpl_loadf (by rfl) 3 _ (by rfl) w.heap.size 2 (by rfl) _ _ P5 _ rfl _ Try.underlying3 rfl ?_)
      | (refine wpl_load (by rfl) 29 _ (by rfl) w1.heap.size (by rfl) 29 _ R5 _ Try.underlying29 rfl _ sizeRoot (by rfl) ?_)
      | (go_at_call 31; ((with_reducible refine (hF _).mono ?_); rintro e w6 ⟨rfl, b6⟩; (have P6 := P5.below b6 (by omega)); (have R6 := R5.below b6 (by omega)); (have J6 := J5.below b6 (by omega)); (have z6 := b6.size))) | (refine wpl_loadf (by rfl) 3 _ (by rfl) w.heap.size 1 (by rfl) _ _ P6 _ rfl _ Try.underlying3 rfl ?_) | (refine wpl_loadf (by rfl) 3 _ (by rfl) w1.heap.size 0 (by rfl) _ _ R6 _ rfl _ Try.underlying3 rfl ?_) | (refine wpl_loadf (by rfl) 3 _ (by rfl) w.heap.size 4 (by rfl) _ _ P6 _ rfl _ Try.underlying3 rfl ?_) | (refine wpl_loadf (by rfl) 22 _ (by rfl) w1.heap.size 3 (by rfl) _ _ R6 _ rfl _ Try.underlying22 rfl ?_) | (refine wpl_loadf (by rfl) 23 _ (by rfl) w.heap.size 12 (by rfl) _ _ P6 _ rfl _ Try.underlying23 rfl ?_)
      | ((refine wpl_alloc (by rfl) 25 (by rfl) (.agg (zN).toArray) (zN) zeroNtp rfl ?_; intro w8 T8 s8 b8); (have J8 := J6.below b8 (by omega)); (have R8 := R6.below b8 (by omega)))
      | ((refine wpl_store (by rfl) 25 _ _ (by rfl) w6.heap.size (by rfl) _ (by rfl) _ rfl 25 _ T8 (by rfl) _ sizeNtp (by rfl) (by simp [Value.oneCell']) ?_; intro w9 T9 s9 g9); (have J9 := J8.but g9 (by omega)); (have R9 := R8.but g9 (by omega)))
      | (refine wpl_loadf (by rfl) 3 _ (by rfl) w1.heap.size 0 (by rfl) _ _ R9 _ rfl _ Try.underlying3 rfl ?_)
          | ((refine wpl_storeg (by rfl) 3 _ _ (by rfl) w6.heap.size 0 (by rfl) (.int .i64 3) (by rfl) (by rfl) (by simp [Value.oneCell']) _ _ ([.int .i64 3, .int .i64 v, .int .i64 4, .int .i64 s, .int .i64 po, .int .i64 pc, .int .u32 D, .int .u32 Q, .int .u32 r, .int .u64 tf, .int .u64 xmt, .int .u64 tr, .int .u64 tx]) T9 (by simp) sizeI64 (by rfl) ?_; intro w10 T10 s10 g10); (have J10 := J9.but g10 (by omega)))
          | ((refine wpl_storeg (by rfl) 3 _ _ (by rfl) w6.heap.size 3 (by rfl) (.int .i64 0) (by rfl) (by rfl) (by simp [Value.oneCell']) _ _ ([.int .i64 3, .int .i64 v, .int .i64 4, .int .i64 0, .int .i64 po, .int .i64 pc, .int .u32 D, .int .u32 Q, .int .u32 r, .int .u64 tf, .int .u64 xmt, .int .u64 tr, .int .u64 tx]) T10 (by simp) sizeI64 (by rfl) ?_; intro w11 T11 s11 g11); (have J11 := J10.but g11 (by omega)))
          | (refine wpl_load (by rfl) 25 _ (by rfl) w6.heap.size (by rfl) 25 _ T11 _ Try.underlying25 rfl _ sizeNtp (by rfl) ?_)
          | (refine wpl_store (by rfl) 25 _ _ (by rfl) w2.heap.size (by rfl) _ (by rfl) _ rfl 25 _ J11 (by rfl) _ sizeNtp (by rfl) (by simp [Value.oneCell']) ?_; intro w7 J7 s7 g7))
    obtain ⟨k0, k1, k2, k3, k4, k5, k6, k7, k8, k9, k10, k11, k12⟩ := cells13 J7
    refine bodyPost_ret (v := .tuple #[ntp 3 v 4 0 po pc D Q r tf xmt tr tx, .int .i64 0]) (by simp [results, Try.results10, go_sem, k0, k1, k2, k3, k4, k5, k6, k7, k8, k9, k10, k11, k12]) rfl ?_
    exact ⟨rfl, (((((((((b1.trans (b2.mono (by omega))).trans (b3.mono (by omega))).trans (b4.mono (by omega))).trans (b5.mono (by omega))).trans (b6.mono (by omega))).trans (b8.mono (by omega))).trans (g9.below (by omega) (by omega))).trans (g10.below (by omega) (by omega))).trans (g11.below (by omega) (by omega))).trans (g7.below (by omega) (by omega))⟩
  · have hl : ryL s lp = lp := if_neg hs
    have hS : ryS s = s := if_neg hs
    have hs' : (s == 16) = false := by simpa using hs
    rw [hl, hS]
    clear hl hS hs
    go_enter Try.func10, Try.ntmps10
    go_wp2_with (first
      | (refine wpl_box (by rfl) 25 _ (by rfl) _ ([.int .i64 l, .int .i64 v, .int .i64 m, .int .i64 st, .int .i64 po, .int .i64 pr, .int .u32 rd, .int .u32 rp, .int .u32 id, .int .u64 ref, .int .u64 org, .int .u64 rec, .int .u64 xmt]) (by rfl) rfl ?_; intro w1 P1 s1 b1)
      | ((refine wpl_box (by rfl) 29 _ (by rfl) _ (rtL s d p r) (by rfl) rfl ?_; intro w2 R2 s2 b2); (have P2 := P1.below b2 (by omega)))
      | ((refine wpl_alloc (by rfl) 25 (by rfl) (.agg (zN).toArray) (zN) zeroNtp rfl ?_; intro w3 J3 s3 b3); (have P3 := P2.below b3 (by omega)); (have R3 := R2.below b3 (by omega)))
      | (refine wpl_load (by rfl) 25 _ (by rfl) w.heap.size (by rfl) 25 _ P3 _ Try.underlying25 rfl _ sizeNtp (by rfl) ?_)
      | (go_at_call 29; ((with_reducible refine (hC _).mono ?_); rintro e w4 ⟨rfl, b4⟩; (have P4 := P3.below b4 (by omega)); (have R4 := R3.below b4 (by omega)); (have J4 := J3.below b4 (by omega)); (have z4 := b4.size)))
      | (refine wpl_load (by rfl) 29 _ (by rfl) w1.heap.size (by rfl) 29 _ R4 _ Try.underlying29 rfl _ sizeRoot (by rfl) ?_)
      | (go_at_call 30; ((with_reducible refine (hK _).mono ?_); rintro e w5 ⟨rfl, b5⟩; (have P5 := P4.below b5 (by omega)); (have R5 := R4.below b5 (by omega)); (have J5 := J4.below b5 (by omega)); (have z5 := b5.size))) | (refine wpl_loadf (by rfl) 3 _ (by rfl) w.heap.size 2 (by rfl) _ _ P5 _ rfl _ Try.underlying3 rfl ?_)
      | (refine wpl_load (by rfl) 29 _ (by rfl) w1.heap.size (by rfl) 29 _ R5 _ Try.underlying29 rfl _ sizeRoot (by rfl) ?_)
      | (go_at_call 31; ((with_reducible refine (hF _).mono ?_); rintro e w6 ⟨rfl, b6⟩; (have P6 := P5.below b6 (by omega)); (have R6 := R5.below b6 (by omega)); (have J6 := J5.below b6 (by omega)); (have z6 := b6.size))) | (refine wpl_loadf (by rfl) 3 _ (by rfl) w.heap.size 1 (by rfl) _ _ P6 _ rfl _ Try.underlying3 rfl ?_) | (refine wpl_loadf (by rfl) 3 _ (by rfl) w1.heap.size 0 (by rfl) _ _ R6 _ rfl _ Try.underlying3 rfl ?_) | (refine wpl_loadf (by rfl) 3 _ (by rfl) w.heap.size 4 (by rfl) _ _ P6 _ rfl _ Try.underlying3 rfl ?_) | (refine wpl_loadf (by rfl) 22 _ (by rfl) w1.heap.size 3 (by rfl) _ _ R6 _ rfl _ Try.underlying22 rfl ?_) | (refine wpl_loadf (by rfl) 23 _ (by rfl) w.heap.size 12 (by rfl) _ _ P6 _ rfl _ Try.underlying23 rfl ?_)
      | ((refine wpl_alloc (by rfl) 25 (by rfl) (.agg (zN).toArray) (zN) zeroNtp rfl ?_; intro w8 T8 s8 b8); (have J8 := J6.below b8 (by omega)); (have R8 := R6.below b8 (by omega)))
      | ((refine wpl_store (by rfl) 25 _ _ (by rfl) w6.heap.size (by rfl) _ (by rfl) _ rfl 25 _ T8 (by rfl) _ sizeNtp (by rfl) (by simp [Value.oneCell']) ?_; intro w9 T9 s9 g9); (have J9 := J8.but g9 (by omega)); (have R9 := R8.but g9 (by omega)))
      | (refine wpl_loadf (by rfl) 3 _ (by rfl) w1.heap.size 0 (by rfl) _ _ R9 _ rfl _ Try.underlying3 rfl ?_)
          | (refine wpl_load (by rfl) 25 _ (by rfl) w6.heap.size (by rfl) 25 _ T9 _ Try.underlying25 rfl _ sizeNtp (by rfl) ?_)
          | (refine wpl_store (by rfl) 25 _ _ (by rfl) w2.heap.size (by rfl) _ (by rfl) _ rfl 25 _ J9 (by rfl) _ sizeNtp (by rfl) (by simp [Value.oneCell']) ?_; intro w7 J7 s7 g7))
    obtain ⟨k0, k1, k2, k3, k4, k5, k6, k7, k8, k9, k10, k11, k12⟩ := cells13 J7
    refine bodyPost_ret (v := .tuple #[ntp lp v 4 s po pc D Q r tf xmt tr tx, .int .i64 0]) (by simp [results, Try.results10, go_sem, k0, k1, k2, k3, k4, k5, k6, k7, k8, k9, k10, k11, k12]) rfl ?_
    exact ⟨rfl, (((((((b1.trans (b2.mono (by omega))).trans (b3.mono (by omega))).trans (b4.mono (by omega))).trans (b5.mono (by omega))).trans (b6.mono (by omega))).trans (b8.mono (by omega))).trans (g9.below (by omega) (by omega))).trans (g7.below (by omega) (by omega))⟩
end Go.Proofs.Ytjclifjipphnkaa
