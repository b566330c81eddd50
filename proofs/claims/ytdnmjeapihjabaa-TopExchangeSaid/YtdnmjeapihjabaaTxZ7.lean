/- What server.Reply and its reference compute. What server.KissReply and its reference compute. Slices of structs that came in: each element's cells; the laws of load where a range of cells is known. No function of the program occurs here. A byte slice that came in, opened: what its cells hold, its bounds. Lists of extension fields in memory; a list that came in, opened. What slices.Equal and slices.Clone compute on byte slices. Interval fields: put, get, the check of an interval. What server.Field and its reference compute. -/
import Derived.Test.YtdnmjeapihjabaaTxZ3
import Derived.Test.YtdnmjeapihjabaaTxZ5
import Derived.Test.YtdnmjeapihjabaaTxZ2
import Derived.Deep.Slices
import Derived.SizedLaws
import Derived.Test.YtdnmjeapihjabaaTxZ1
import Derived.OpenShut
import Derived.Lib.SliceRun
namespace Go.Proofs.Ytdnmjeapihjabaa
open Go.RowKit
set_option linter.unusedSimpArgs false
set_option linter.unusedVariables false
set_option maxRecDepth 100000
theorem sizeRoot : (Try.prog.info? 34).map (·.size) = some 4 := by kernel_rfl
abbrev rtL (s d p r : Int) : List Value := [.int .i64 s, .int .i64 d, .int .i64 p, .int .u32 r]
/-- are the leap indicator, the precision and the root right? -/
def rgB (lp pc s d p : Int) : Bool := decide (0 ≤ lp ∧ lp ≤ 3 ∧ -128 ≤ pc ∧ pc ≤ 127 ∧ chk s d p = 0)
def rpE (K m s d p lp pc : Int) : Int := if rgB lp pc s d p = true then rqE K m else 2
set_option maxHeartbeats 2000000 in
theorem checkReply_ok (l v m st po pr rd rp id ref org rec xmt s d p r lp pc : Int) (w : World) (h : rgB lp pc s d p = true) : Calls Try.prog 48 #[ntp l v m st po pr rd rp id ref org rec xmt, root s d p r, .int .i64 lp, .int .i64 pc] w fun e w' => e = .returned (.int .i64 (rqE (nchk l v m st po pr) m)) ∧ Below w.heap.size w w' := by
  have hQ := fun W => checkRequest_any l v m st po pr rd rp id ref org rec xmt W
  have hC := fun W => check_any s d p r W
  obtain ⟨h1, h2, h3, h4, h5⟩ := of_decide_eq_true h
  simp only [h5] at hC
  generalize rqE (nchk l v m st po pr) m = E at hQ ⊢
  clear h h5
  go_enter Try.func48, Try.ntmps48
  go_wp2_with (first
    | (refine wpl_box (by rfl) 29 _ (by rfl) _ ([.int .i64 l, .int .i64 v, .int .i64 m, .int .i64 st, .int .i64 po, .int .i64 pr, .int .u32 rd, .int .u32 rp, .int .u32 id, .int .u64 ref, .int .u64 org, .int .u64 rec, .int .u64 xmt]) (by rfl) rfl ?_; intro w1 P1 s1 b1)
    | ((refine wpl_box (by rfl) 34 _ (by rfl) _ (rtL s d p r) (by rfl) rfl ?_; intro w2 R2 s2 b2); (have P2 := P1.below b2 (by omega)))
    | (refine wpl_load (by rfl) 34 _ (by rfl) w1.heap.size (by rfl) 34 _ R2 _ Try.underlying34 rfl _ sizeRoot (by rfl) ?_)
    | (go_at_call 46; ((with_reducible refine (hC _).mono ?_); rintro e w3 ⟨rfl, b3⟩; (have P3 := P2.below b3 (by omega)); (have z3 := b3.size)))
    | (refine wpl_load (by rfl) 29 _ (by rfl) w.heap.size (by rfl) 29 _ P3 _ Try.underlying29 rfl _ sizeNtp (by rfl) ?_)
    | (go_at_call 63; ((with_reducible refine (hQ _).mono ?_); rintro e w4 ⟨rfl, b4⟩)))
  go_ret
  exact ⟨rfl, ((b1.trans (b2.mono (by omega))).trans (b3.mono (by omega))).trans (b4.mono (by omega))⟩
set_option maxHeartbeats 2000000 in
theorem checkReply_no (l v m st po pr rd rp id ref org rec xmt s d p r lp pc : Int) (w : World) (h : rgB lp pc s d p = false) : Calls Try.prog 48 #[ntp l v m st po pr rd rp id ref org rec xmt, root s d p r, .int .i64 lp, .int .i64 pc] w fun e w' => e = .returned (.int .i64 2) ∧ Below w.heap.size w w' := by
  have hQ : True := trivial
  have hC := fun W => check_any s d p r W
  have hn := of_decide_eq_false h
  by_cases h1 : lp < 0
  · clear h hn
    go_enter Try.func48, Try.ntmps48
    go_wp2_with (first
      | (refine wpl_box (by rfl) 29 _ (by rfl) _ ([.int .i64 l, .int .i64 v, .int .i64 m, .int .i64 st, .int .i64 po, .int .i64 pr, .int .u32 rd, .int .u32 rp, .int .u32 id, .int .u64 ref, .int .u64 org, .int .u64 rec, .int .u64 xmt]) (by rfl) rfl ?_; intro w1 P1 s1 b1)
      | ((refine wpl_box (by rfl) 34 _ (by rfl) _ (rtL s d p r) (by rfl) rfl ?_; intro w2 R2 s2 b2); (have P2 := P1.below b2 (by omega)))
      | (refine wpl_load (by rfl) 34 _ (by rfl) w1.heap.size (by rfl) 34 _ R2 _ Try.underlying34 rfl _ sizeRoot (by rfl) ?_)
      | (go_at_call 46; ((with_reducible refine (hC _).mono ?_); rintro e w3 ⟨rfl, b3⟩; (have P3 := P2.below b3 (by omega)); (have z3 := b3.size)))
      | (refine wpl_load (by rfl) 29 _ (by rfl) w.heap.size (by rfl) 29 _ P3 _ Try.underlying29 rfl _ sizeNtp (by rfl) ?_)
      | (go_at_call 63; ((with_reducible refine (hQ _).mono ?_); rintro e w4 ⟨rfl, b4⟩)))
    go_ret
    exact ⟨rfl, b1.trans (b2.mono (by omega))⟩
  · by_cases h2 : 3 < lp
    · clear h hn
      go_enter Try.func48, Try.ntmps48
      go_wp2_with (first
        | (refine wpl_box (by rfl) 29 _ (by rfl) _ ([.int .i64 l, .int .i64 v, .int .i64 m, .int .i64 st, .int .i64 po, .int .i64 pr, .int .u32 rd, .int .u32 rp, .int .u32 id, .int .u64 ref, .int .u64 org, .int .u64 rec, .int .u64 xmt]) (by rfl) rfl ?_; intro w1 P1 s1 b1)
        | ((refine wpl_box (by rfl) 34 _ (by rfl) _ (rtL s d p r) (by rfl) rfl ?_; intro w2 R2 s2 b2); (have P2 := P1.below b2 (by omega)))
        | (refine wpl_load (by rfl) 34 _ (by rfl) w1.heap.size (by rfl) 34 _ R2 _ Try.underlying34 rfl _ sizeRoot (by rfl) ?_)
        | (go_at_call 46; ((with_reducible refine (hC _).mono ?_); rintro e w3 ⟨rfl, b3⟩; (have P3 := P2.below b3 (by omega)); (have z3 := b3.size)))
        | (refine wpl_load (by rfl) 29 _ (by rfl) w.heap.size (by rfl) 29 _ P3 _ Try.underlying29 rfl _ sizeNtp (by rfl) ?_)
        | (go_at_call 63; ((with_reducible refine (hQ _).mono ?_); rintro e w4 ⟨rfl, b4⟩)))
      go_ret
      exact ⟨rfl, b1.trans (b2.mono (by omega))⟩
    · by_cases h3 : pc < -128
      · clear h hn
        go_enter Try.func48, Try.ntmps48
        go_wp2_with (first
          | (refine wpl_box (by rfl) 29 _ (by rfl) _ ([.int .i64 l, .int .i64 v, .int .i64 m, .int .i64 st, .int .i64 po, .int .i64 pr, .int .u32 rd, .int .u32 rp, .int .u32 id, .int .u64 ref, .int .u64 org, .int .u64 rec, .int .u64 xmt]) (by rfl) rfl ?_; intro w1 P1 s1 b1)
          | ((refine wpl_box (by rfl) 34 _ (by rfl) _ (rtL s d p r) (by rfl) rfl ?_; intro w2 R2 s2 b2); (have P2 := P1.below b2 (by omega)))
          | (refine wpl_load (by rfl) 34 _ (by rfl) w1.heap.size (by rfl) 34 _ R2 _ Try.underlying34 rfl _ sizeRoot (by rfl) ?_)
          | (go_at_call 46; ((with_reducible refine (hC _).mono ?_); rintro e w3 ⟨rfl, b3⟩; (have P3 := P2.below b3 (by omega)); (have z3 := b3.size)))
          | (refine wpl_load (by rfl) 29 _ (by rfl) w.heap.size (by rfl) 29 _ P3 _ Try.underlying29 rfl _ sizeNtp (by rfl) ?_)
          | (go_at_call 63; ((with_reducible refine (hQ _).mono ?_); rintro e w4 ⟨rfl, b4⟩)))
        go_ret
        exact ⟨rfl, b1.trans (b2.mono (by omega))⟩
      · by_cases h4 : 127 < pc
        · clear h hn
          go_enter Try.func48, Try.ntmps48
          go_wp2_with (first
            | (refine wpl_box (by rfl) 29 _ (by rfl) _ ([.int .i64 l, .int .i64 v, .int .i64 m, .int .i64 st, .int .i64 po, .int .i64 pr, .int .u32 rd, .int .u32 rp, .int .u32 id, .int .u64 ref, .int .u64 org, .int .u64 rec, .int .u64 xmt]) (by rfl) rfl ?_; intro w1 P1 s1 b1)
            | ((refine wpl_box (by rfl) 34 _ (by rfl) _ (rtL s d p r) (by rfl) rfl ?_; intro w2 R2 s2 b2); (have P2 := P1.below b2 (by omega)))
            | (refine wpl_load (by rfl) 34 _ (by rfl) w1.heap.size (by rfl) 34 _ R2 _ Try.underlying34 rfl _ sizeRoot (by rfl) ?_)
            | (go_at_call 46; ((with_reducible refine (hC _).mono ?_); rintro e w3 ⟨rfl, b3⟩; (have P3 := P2.below b3 (by omega)); (have z3 := b3.size)))
            | (refine wpl_load (by rfl) 29 _ (by rfl) w.heap.size (by rfl) 29 _ P3 _ Try.underlying29 rfl _ sizeNtp (by rfl) ?_)
            | (go_at_call 63; ((with_reducible refine (hQ _).mono ?_); rintro e w4 ⟨rfl, b4⟩)))
          go_ret
          exact ⟨rfl, b1.trans (b2.mono (by omega))⟩
        · have h5 : (chk s d p != 0) = true := by
            simp
            intro h5
            exact hn ⟨by omega, by omega, by omega, by omega, h5⟩
          clear h hn
          go_enter Try.func48, Try.ntmps48
          go_wp2_with (first
            | (refine wpl_box (by rfl) 29 _ (by rfl) _ ([.int .i64 l, .int .i64 v, .int .i64 m, .int .i64 st, .int .i64 po, .int .i64 pr, .int .u32 rd, .int .u32 rp, .int .u32 id, .int .u64 ref, .int .u64 org, .int .u64 rec, .int .u64 xmt]) (by rfl) rfl ?_; intro w1 P1 s1 b1)
            | ((refine wpl_box (by rfl) 34 _ (by rfl) _ (rtL s d p r) (by rfl) rfl ?_; intro w2 R2 s2 b2); (have P2 := P1.below b2 (by omega)))
            | (refine wpl_load (by rfl) 34 _ (by rfl) w1.heap.size (by rfl) 34 _ R2 _ Try.underlying34 rfl _ sizeRoot (by rfl) ?_)
            | (go_at_call 46; ((with_reducible refine (hC _).mono ?_); rintro e w3 ⟨rfl, b3⟩; (have P3 := P2.below b3 (by omega)); (have z3 := b3.size)))
            | (refine wpl_load (by rfl) 29 _ (by rfl) w.heap.size (by rfl) 29 _ P3 _ Try.underlying29 rfl _ sizeNtp (by rfl) ?_)
            | (go_at_call 63; ((with_reducible refine (hQ _).mono ?_); rintro e w4 ⟨rfl, b4⟩)))
          go_ret
          exact ⟨rfl, (b1.trans (b2.mono (by omega))).trans (b3.mono (by omega))⟩
theorem checkReply_any (l v m st po pr rd rp id ref org rec xmt s d p r lp pc : Int) (w : World) : Calls Try.prog 48 #[ntp l v m st po pr rd rp id ref org rec xmt, root s d p r, .int .i64 lp, .int .i64 pc] w fun e w' => e = .returned (.int .i64 (rpE (nchk l v m st po pr) m s d p lp pc)) ∧ Below w.heap.size w w' := by
  cases h : rgB lp pc s d p with
  | true =>
    have hE : rpE (nchk l v m st po pr) m s d p lp pc = rqE (nchk l v m st po pr) m := by unfold rpE; rw [if_pos h]
    rw [hE]
    exact checkReply_ok l v m st po pr rd rp id ref org rec xmt s d p r lp pc w h
  | false =>
    have hE : rpE (nchk l v m st po pr) m s d p lp pc = 2 := by unfold rpE; rw [if_neg (by rw [h]; simp)]
    rw [hE]
    exact checkReply_no l v m st po pr rd rp id ref org rec xmt s d p r lp pc w h
/-- the error of a reply -/
def ryE (K m s d p lp pc : Int) : Int := if rpE K m s d p lp pc = 0 then fieldsErr s d p else rpE K m s d p lp pc
set_option maxHeartbeats 4000000 in
theorem reply_err (l v m st po pr rd rp id ref org rec xmt tr tx tf s d p r lp pc : Int) (w : World) (h : rpE (nchk l v m st po pr) m s d p lp pc ≠ 0) : Calls Try.prog 20 #[ntp l v m st po pr rd rp id ref org rec xmt, .int .u64 tr, .int .u64 tx, .int .u64 tf, root s d p r, .int .i64 lp, .int .i64 pc] w fun e w' => e = .returned (.tuple #[ntp0, .int .i64 (rpE (nchk l v m st po pr) m s d p lp pc)]) ∧ Below w.heap.size w w' := by
  have hC := fun W => checkReply_any l v m st po pr rd rp id ref org rec xmt s d p r lp pc W
  have hF : True := trivial
  generalize rpE (nchk l v m st po pr) m s d p lp pc = E at hC h ⊢
  have h' : (E != 0) = true := by simpa using h
  clear h
  go_enter Try.func20, Try.ntmps20
  go_wp2_with (first
    | (refine wpl_box (by rfl) 29 _ (by rfl) _ ([.int .i64 l, .int .i64 v, .int .i64 m, .int .i64 st, .int .i64 po, .int .i64 pr, .int .u32 rd, .int .u32 rp, .int .u32 id, .int .u64 ref, .int .u64 org, .int .u64 rec, .int .u64 xmt]) (by rfl) rfl ?_; intro w1 P1 s1 b1)
    | ((refine wpl_box (by rfl) 34 _ (by rfl) _ (rtL s d p r) (by rfl) rfl ?_; intro w2 R2 s2 b2); (have P2 := P1.below b2 (by omega)))
    | ((refine wpl_alloc (by rfl) 29 (by rfl) (.agg (zN).toArray) (zN) zeroNtp rfl ?_; intro w3 J3 s3 b3); (have P3 := P2.below b3 (by omega)); (have R3 := R2.below b3 (by omega)))
    | (refine wpl_load (by rfl) 29 _ (by rfl) w.heap.size (by rfl) 29 _ P3 _ Try.underlying29 rfl _ sizeNtp (by rfl) ?_) | (refine wpl_load (by rfl) 34 _ (by rfl) w1.heap.size (by rfl) 34 _ R3 _ Try.underlying34 rfl _ sizeRoot (by rfl) ?_)
    | (go_at_call 48; ((with_reducible refine (hC _).mono ?_); rintro e w4 ⟨rfl, b4⟩; (have P4 := P3.below b4 (by omega)); (have R4 := R3.below b4 (by omega)); (have J4 := J3.below b4 (by omega)); (have z4 := b4.size)))
    | (refine wpl_load (by rfl) 34 _ (by rfl) w1.heap.size (by rfl) 34 _ R4 _ Try.underlying34 rfl _ sizeRoot (by rfl) ?_)
    | (go_at_call 49; ((with_reducible refine (hF _).mono ?_); rintro e w5 ⟨rfl, b5⟩; (have P5 := P4.below b5 (by omega)); (have R5 := R4.below b5 (by omega)); (have J5 := J4.below b5 (by omega)); (have z5 := b5.size)))
    | (refine wpl_loadf (by rfl) 3 _ (by rfl) w1.heap.size 0 (by rfl) _ _ R5 _ rfl _ Try.underlying3 rfl ?_) | (refine wpl_loadf (by rfl) 27 _ (by rfl) w1.heap.size 3 (by rfl) _ _ R5 _ rfl _ Try.underlying27 rfl ?_)
    | (refine wpl_loadf (by rfl) 3 _ (by rfl) w.heap.size 1 (by rfl) _ _ P5 _ rfl _ Try.underlying3 rfl ?_) | (refine wpl_loadf (by rfl) 3 _ (by rfl) w.heap.size 4 (by rfl) _ _ P5 _ rfl _ Try.underlying3 rfl ?_) | (refine wpl_loadf (by rfl) 24 _ (by rfl) w.heap.size 12 (by rfl) _ _ P5 _ rfl _ Try.underlying24 rfl ?_)
    | (refine wpl_store (by rfl) 29 _ _ (by rfl) w2.heap.size (by rfl) _ (by rfl) _ rfl 29 _ J5 (by rfl) _ sizeNtp (by rfl) (by simp [Value.oneCell']) ?_; intro w6 J6 s6 g6)
    | (refine wpl_store (by rfl) 29 _ _ (by rfl) w2.heap.size (by rfl) _ (by rfl) _ rfl 29 _ J4 (by rfl) _ sizeNtp (by rfl) (by simp [Value.oneCell']) ?_; intro w6 J6 s6 g6))
  obtain ⟨k0, k1, k2, k3, k4, k5, k6, k7, k8, k9, k10, k11, k12⟩ := cells13 J6
  refine bodyPost_ret (v := .tuple #[ntp0, .int .i64 E]) (by simp [results, Try.results20, go_sem, k0, k1, k2, k3, k4, k5, k6, k7, k8, k9, k10, k11, k12]) rfl ?_
  exact ⟨rfl, (((b1.trans (b2.mono (by omega))).trans (b3.mono (by omega))).trans (b4.mono (by omega))).trans (g6.below (by omega) (by omega))⟩
set_option maxHeartbeats 4000000 in
theorem reply_fe (l v m st po pr rd rp id ref org rec xmt tr tx tf s d p r lp pc : Int) (w : World) (h : rpE (nchk l v m st po pr) m s d p lp pc = 0) (hf : fieldsErr s d p = 3) : Calls Try.prog 20 #[ntp l v m st po pr rd rp id ref org rec xmt, .int .u64 tr, .int .u64 tx, .int .u64 tf, root s d p r, .int .i64 lp, .int .i64 pc] w fun e w' => e = .returned (.tuple #[ntp0, .int .i64 3]) ∧ Below w.heap.size w w' := by
  have hC := fun W => checkReply_any l v m st po pr rd rp id ref org rec xmt s d p r lp pc W
  have hF := fun W => fields_any s d p r W
  simp only [h] at hC
  simp only [hf] at hF
  clear h hf
  go_enter Try.func20, Try.ntmps20
  go_wp2_with (first
    | (refine wpl_box (by rfl) 29 _ (by rfl) _ ([.int .i64 l, .int .i64 v, .int .i64 m, .int .i64 st, .int .i64 po, .int .i64 pr, .int .u32 rd, .int .u32 rp, .int .u32 id, .int .u64 ref, .int .u64 org, .int .u64 rec, .int .u64 xmt]) (by rfl) rfl ?_; intro w1 P1 s1 b1)
    | ((refine wpl_box (by rfl) 34 _ (by rfl) _ (rtL s d p r) (by rfl) rfl ?_; intro w2 R2 s2 b2); (have P2 := P1.below b2 (by omega)))
    | ((refine wpl_alloc (by rfl) 29 (by rfl) (.agg (zN).toArray) (zN) zeroNtp rfl ?_; intro w3 J3 s3 b3); (have P3 := P2.below b3 (by omega)); (have R3 := R2.below b3 (by omega)))
    | (refine wpl_load (by rfl) 29 _ (by rfl) w.heap.size (by rfl) 29 _ P3 _ Try.underlying29 rfl _ sizeNtp (by rfl) ?_) | (refine wpl_load (by rfl) 34 _ (by rfl) w1.heap.size (by rfl) 34 _ R3 _ Try.underlying34 rfl _ sizeRoot (by rfl) ?_)
    | (go_at_call 48; ((with_reducible refine (hC _).mono ?_); rintro e w4 ⟨rfl, b4⟩; (have P4 := P3.below b4 (by omega)); (have R4 := R3.below b4 (by omega)); (have J4 := J3.below b4 (by omega)); (have z4 := b4.size)))
    | (refine wpl_load (by rfl) 34 _ (by rfl) w1.heap.size (by rfl) 34 _ R4 _ Try.underlying34 rfl _ sizeRoot (by rfl) ?_)
    | (go_at_call 49; ((with_reducible refine (hF _).mono ?_); rintro e w5 ⟨rfl, b5⟩; (have P5 := P4.below b5 (by omega)); (have R5 := R4.below b5 (by omega)); (have J5 := J4.below b5 (by omega)); (have z5 := b5.size)))
    | (refine wpl_loadf (by rfl) 3 _ (by rfl) w1.heap.size 0 (by rfl) _ _ R5 _ rfl _ Try.underlying3 rfl ?_) | (refine wpl_loadf (by rfl) 27 _ (by rfl) w1.heap.size 3 (by rfl) _ _ R5 _ rfl _ Try.underlying27 rfl ?_)
    | (refine wpl_loadf (by rfl) 3 _ (by rfl) w.heap.size 1 (by rfl) _ _ P5 _ rfl _ Try.underlying3 rfl ?_) | (refine wpl_loadf (by rfl) 3 _ (by rfl) w.heap.size 4 (by rfl) _ _ P5 _ rfl _ Try.underlying3 rfl ?_) | (refine wpl_loadf (by rfl) 24 _ (by rfl) w.heap.size 12 (by rfl) _ _ P5 _ rfl _ Try.underlying24 rfl ?_)
    | (refine wpl_store (by rfl) 29 _ _ (by rfl) w2.heap.size (by rfl) _ (by rfl) _ rfl 29 _ J5 (by rfl) _ sizeNtp (by rfl) (by simp [Value.oneCell']) ?_; intro w6 J6 s6 g6)
    | (refine wpl_store (by rfl) 29 _ _ (by rfl) w2.heap.size (by rfl) _ (by rfl) _ rfl 29 _ J4 (by rfl) _ sizeNtp (by rfl) (by simp [Value.oneCell']) ?_; intro w6 J6 s6 g6))
  obtain ⟨k0, k1, k2, k3, k4, k5, k6, k7, k8, k9, k10, k11, k12⟩ := cells13 J6
  refine bodyPost_ret (v := .tuple #[ntp0, .int .i64 3]) (by simp [results, Try.results20, go_sem, k0, k1, k2, k3, k4, k5, k6, k7, k8, k9, k10, k11, k12]) rfl ?_
  exact ⟨rfl, ((((b1.trans (b2.mono (by omega))).trans (b3.mono (by omega))).trans (b4.mono (by omega))).trans (b5.mono (by omega))).trans (g6.below (by omega) (by omega))⟩
/-- the leap indicator and the stratum of a reply -/
def ryL (s lp : Int) : Int := if s = 16 then 3 else lp
def ryS (s : Int) : Int := if s = 16 then 0 else s
abbrev ryN (v po xmt tr tx tf s d p r lp pc : Int) : Value := ntp (ryL s lp) v 4 (ryS s) po pc (shortN d) (shortN p) r tf xmt tr tx
set_option maxHeartbeats 4000000 in
theorem reply_ok (l v m st po pr rd rp id ref org rec xmt tr tx tf s d p r lp pc : Int) (w : World) (h : rpE (nchk l v m st po pr) m s d p lp pc = 0) (hf : fieldsErr s d p = 0) : Calls Try.prog 20 #[ntp l v m st po pr rd rp id ref org rec xmt, .int .u64 tr, .int .u64 tx, .int .u64 tf, root s d p r, .int .i64 lp, .int .i64 pc] w fun e w' => e = .returned (.tuple #[ryN v po xmt tr tx tf s d p r lp pc, .int .i64 0]) ∧ Below w.heap.size w w' := by
  have hC := fun W => checkReply_any l v m st po pr rd rp id ref org rec xmt s d p r lp pc W
  have hF := fun W => fields_any s d p r W
  simp only [h] at hC
  simp only [hf, z0_zero] at hF
  clear h hf
  simp only [ryN]
  generalize shortN d = D at hF ⊢
  generalize shortN p = Q at hF ⊢
  by_cases hs : s = 16
  · have hl : ryL s lp = 3 := if_pos hs
    have hS : ryS s = 0 := if_pos hs
    have hs' : (s == 16) = true := by simpa using hs
    rw [hl, hS]
    clear hl hS hs
    go_enter Try.func20, Try.ntmps20
    go_wp2_with (first
      | (refine wpl_box (by rfl) 29 _ (by rfl) _ ([.int .i64 l, .int .i64 v, .int .i64 m, .int .i64 st, .int .i64 po, .int .i64 pr, .int .u32 rd, .int .u32 rp, .int .u32 id, .int .u64 ref, .int .u64 org, .int .u64 rec, .int .u64 xmt]) (by rfl) rfl ?_; intro w1 P1 s1 b1)
      | ((refine wpl_box (by rfl) 34 _ (by rfl) _ (rtL s d p r) (by rfl) rfl ?_; intro w2 R2 s2 b2); (have P2 := P1.below b2 (by omega)))
      | ((refine wpl_alloc (by rfl) 29 (by rfl) (.agg (zN).toArray) (zN) zeroNtp rfl ?_; intro w3 J3 s3 b3); (have P3 := P2.below b3 (by omega)); (have R3 := R2.below b3 (by omega)))
      | (refine wpl_load (by rfl) 29 _ (by rfl) w.heap.size (by rfl) 29 _ P3 _ Try.underlying29 rfl _ sizeNtp (by rfl) ?_) | (refine wpl_load (by rfl) 34 _ (by rfl) w1.heap.size (by rfl) 34 _ R3 _ Try.underlying34 rfl _ sizeRoot (by rfl) ?_)
      | (go_at_call 48; ((with_reducible refine (hC _).mono ?_); rintro e w4 ⟨rfl, b4⟩; (have P4 := P3.below b4 (by omega)); (have R4 := R3.below b4 (by omega)); (have J4 := J3.below b4 (by omega)); (have z4 := b4.size)))
      | (refine wpl_load (by rfl) 34 _ (by rfl) w1.heap.size (by rfl) 34 _ R4 _ Try.underlying34 rfl _ sizeRoot (by rfl) ?_)
      | (go_at_call 49; ((with_reducible refine (hF _).mono ?_); rintro e w5 ⟨rfl, b5⟩; (have P5 := P4.below b5 (by omega)); (have R5 := R4.below b5 (by omega)); (have J5 := J4.below b5 (by omega)); (have z5 := b5.size)))
      | (refine wpl_loadf (by rfl) 3 _ (by rfl) w1.heap.size 0 (by rfl) _ _ R5 _ rfl _ Try.underlying3 rfl ?_) | (refine wpl_loadf (by rfl) 27 _ (by rfl) w1.heap.size 3 (by rfl) _ _ R5 _ rfl _ Try.underlying27 rfl ?_)
      | (refine wpl_loadf (by rfl) 3 _ (by rfl) w.heap.size 1 (by rfl) _ _ P5 _ rfl _ Try.underlying3 rfl ?_) | (refine wpl_loadf (by rfl) 3 _ (by rfl) w.heap.size 4 (by rfl) _ _ P5 _ rfl _ Try.underlying3 rfl ?_) | (refine wpl_loadf (by rfl) 24 _ (by rfl) w.heap.size 12 (by rfl) _ _ P5 _ rfl _ Try.underlying24 rfl ?_)
      | (refine wpl_store (by rfl) 29 _ _ (by rfl) w2.heap.size (by rfl) _ (by rfl) _ rfl 29 _ J5 (by rfl) _ sizeNtp (by rfl) (by simp [Value.oneCell']) ?_; intro w6 J6 s6 g6)
      | (refine wpl_store (by rfl) 29 _ _ (by rfl) w2.heap.size (by rfl) _ (by rfl) _ rfl 29 _ J4 (by rfl) _ sizeNtp (by rfl) (by simp [Value.oneCell']) ?_; intro w6 J6 s6 g6))
    obtain ⟨k0, k1, k2, k3, k4, k5, k6, k7, k8, k9, k10, k11, k12⟩ := cells13 J6
    refine bodyPost_ret (v := .tuple #[ntp 3 v 4 0 po pc D Q r tf xmt tr tx, .int .i64 0]) (by simp [results, Try.results20, go_sem, k0, k1, k2, k3, k4, k5, k6, k7, k8, k9, k10, k11, k12]) rfl ?_
    exact ⟨rfl, ((((b1.trans (b2.mono (by omega))).trans (b3.mono (by omega))).trans (b4.mono (by omega))).trans (b5.mono (by omega))).trans (g6.below (by omega) (by omega))⟩
  · have hl : ryL s lp = lp := if_neg hs
    have hS : ryS s = s := if_neg hs
    have hs' : (s == 16) = false := by simpa using hs
    rw [hl, hS]
    clear hl hS hs
    go_enter Try.func20, Try.ntmps20
    go_wp2_with (first
      | (refine wpl_box (by rfl) 29 _ (by rfl) _ ([.int .i64 l, .int .i64 v, .int .i64 m, .int .i64 st, .int .i64 po, .int .i64 pr, .int .u32 rd, .int .u32 rp, .int .u32 id, .int .u64 ref, .int .u64 org, .int .u64 rec, .int .u64 xmt]) (by rfl) rfl ?_; intro w1 P1 s1 b1)
      | ((refine wpl_box (by rfl) 34 _ (by rfl) _ (rtL s d p r) (by rfl) rfl ?_; intro w2 R2 s2 b2); (have P2 := P1.below b2 (by omega)))
      | ((refine wpl_alloc (by rfl) 29 (by rfl) (.agg (zN).toArray) (zN) zeroNtp rfl ?_; intro w3 J3 s3 b3); (have P3 := P2.below b3 (by omega)); (have R3 := R2.below b3 (by omega)))
      | (refine wpl_load (by rfl) 29 _ (by rfl) w.heap.size (by rfl) 29 _ P3 _ Try.underlying29 rfl _ sizeNtp (by rfl) ?_) | (refine wpl_load (by rfl) 34 _ (by rfl) w1.heap.size (by rfl) 34 _ R3 _ Try.underlying34 rfl _ sizeRoot (by rfl) ?_)
      | (go_at_call 48; ((with_reducible refine (hC _).mono ?_); rintro e w4 ⟨rfl, b4⟩; (have P4 := P3.below b4 (by omega)); (have R4 := R3.below b4 (by omega)); (have J4 := J3.below b4 (by omega)); (have z4 := b4.size)))
      | (refine wpl_load (by rfl) 34 _ (by rfl) w1.heap.size (by rfl) 34 _ R4 _ Try.underlying34 rfl _ sizeRoot (by rfl) ?_)
      | (go_at_call 49; ((with_reducible refine (hF _).mono ?_); rintro e w5 ⟨rfl, b5⟩; (have P5 := P4.below b5 (by omega)); (have R5 := R4.below b5 (by omega)); (have J5 := J4.below b5 (by omega)); (have z5 := b5.size)))
      | (refine wpl_loadf (by rfl) 3 _ (by rfl) w1.heap.size 0 (by rfl) _ _ R5 _ rfl _ Try.underlying3 rfl ?_) | (refine wpl_loadf (by rfl) 27 _ (by rfl) w1.heap.size 3 (by rfl) _ _ R5 _ rfl _ Try.underlying27 rfl ?_)
      | (refine wpl_loadf (by rfl) 3 _ (by rfl) w.heap.size 1 (by rfl) _ _ P5 _ rfl _ Try.underlying3 rfl ?_) | (refine wpl_loadf (by rfl) 3 _ (by rfl) w.heap.size 4 (by rfl) _ _ P5 _ rfl _ Try.underlying3 rfl ?_) | (refine wpl_loadf (by rfl) 24 _ (by rfl) w.heap.size 12 (by rfl) _ _ P5 _ rfl _ Try.underlying24 rfl ?_)
      | (refine wpl_store (by rfl) 29 _ _ (by rfl) w2.heap.size (by rfl) _ (by rfl) _ rfl 29 _ J5 (by rfl) _ sizeNtp (by rfl) (by simp [Value.oneCell']) ?_; intro w6 J6 s6 g6)
      | (refine wpl_store (by rfl) 29 _ _ (by rfl) w2.heap.size (by rfl) _ (by rfl) _ rfl 29 _ J4 (by rfl) _ sizeNtp (by rfl) (by simp [Value.oneCell']) ?_; intro w6 J6 s6 g6))
    obtain ⟨k0, k1, k2, k3, k4, k5, k6, k7, k8, k9, k10, k11, k12⟩ := cells13 J6
    refine bodyPost_ret (v := .tuple #[ntp lp v 4 s po pc D Q r tf xmt tr tx, .int .i64 0]) (by simp [results, Try.results20, go_sem, k0, k1, k2, k3, k4, k5, k6, k7, k8, k9, k10, k11, k12]) rfl ?_
    exact ⟨rfl, ((((b1.trans (b2.mono (by omega))).trans (b3.mono (by omega))).trans (b4.mono (by omega))).trans (b5.mono (by omega))).trans (g6.below (by omega) (by omega))⟩
/-! ### the reference -/
end Go.Proofs.Ytdnmjeapihjabaa
namespace Go.Proofs.Ytdnmjeapihjabaa
open Go.RowKit
set_option linter.unusedSimpArgs false
set_option linter.unusedVariables false
set_option maxRecDepth 100000
theorem numB_ltB {L : List Int} (h : Byt L) {k : Nat} (hk : L.length = k) : numB L < 256 ^ k := hk ▸ numB_le_pow h
end Go.Proofs.Ytdnmjeapihjabaa
namespace Go.Proofs.Ytdnmjeapihjabaa
open Go.ChangeShapes Go.WideShapes Go.ChangeAt Go.RowKit Go.Joins
set_option linter.unusedSimpArgs false
set_option linter.unusedVariables false
set_option maxRecDepth 100000
/-- n rows of s cells each in a block below hi -/
def Sl (w : World) (hi : Nat) (A : Option Addr) (n s : Nat) (F : Nat → List Value) : Prop :=
  0 < n → ∃ b o, A = some ⟨b, o, none⟩ ∧ b < hi ∧ ∀ k, k < n → (F k).length = s ∧ w.rangeAt b (o + k * s) (F k)
theorem range_below {w w' : World} {b o B : Nat} {cs : List Value} (h : w.rangeAt b o cs) (hb : Below B w w') (h1 : b < B) : w'.rangeAt b o cs := fun j v hv => (hb.cell (p := ⟨b, o + j, none⟩) h1).trans (h j v hv)
theorem range_but {w w' : World} {b o g : Nat} {cs : List Value} (h : w.rangeAt b o cs) (hb : But g w w') (h1 : b ≠ g) : w'.rangeAt b o cs := fun j v hv => (World.cell?_of_block (hb.block b (World.block_lt_of_cell? w _ (h j v hv)) (by simpa using h1))).trans (h j v hv)
theorem range_cell {w : World} {b o : Nat} {cs : List Value} (h : w.rangeAt b o cs) (i : Nat) {v : Value} (hv : cs[i]? = some v) : w.cell? ⟨b, o + i, none⟩ = some v := h i v hv
theorem range_mid {w : World} {b o : Nat} {cs : List Value} (h : w.rangeAt b o cs) (i : Nat) (sub : List Value) (hs : (cs.drop i).take sub.length = sub) : w.rangeAt b (o + i) sub := fun j v hv => by
  have hj : j < sub.length := (List.getElem?_eq_some_iff.1 hv).1
  rw [← hs, List.getElem?_take, if_pos hj, List.getElem?_drop] at hv
  rw [Nat.add_assoc]
  exact h (i + j) v hv
section
variable {w w' : World} {hi n s : Nat} {A : Option Addr} {F : Nat → List Value}
theorem Sl.below {B : Nat} (h : Sl w hi A n s F) (hb : Below B w w') (h1 : hi ≤ B) : Sl w' hi A n s F := fun hn => by
  obtain ⟨b, o, e, h2, hc⟩ := h hn
  exact ⟨b, o, e, h2, fun k hk => ⟨(hc k hk).1, range_below (hc k hk).2 hb (by omega)⟩⟩
theorem Sl.less {m : Nat} (h : Sl w hi A n s F) (hm : m ≤ n) : Sl w hi A m s F := fun hn => by
  obtain ⟨b, o, e, h2, hc⟩ := h (by omega)
  exact ⟨b, o, e, h2, fun k hk => hc k (by omega)⟩
end
section
variable {H : Type} {enc : TypeId × Value → H} {P : Program}
theorem open_rows {W : World} {base : Nat} {v : Value} {d : DataW H} {ps : List MemPlace} {T E : TypeId} {s : Nat} (Pf : List Value → Prop) (ht : P.underlying T = some (.slice E)) (hc : P.cellsOf E = s) (hs : 0 < s)
    (hP : ∀ fuel cs x, DataW.trod enc P W 0 (fun _ => true) true fuel E cs = some x → Pf cs)
    (hval : Value.okWide P W .any base T v) (h1 : DataW.Trod enc P W 0 (fun _ => true) true T v d ps) :
    ∃ (A : Option Addr) (n c : Nat) (F : Nat → List Value), v = .slice A n c ∧ Sl W W.heap.size A n s F ∧ n ≤ c ∧ c ≤ 9223372036854775807 ∧ (A = none → n = 0 ∧ c = 0) ∧ (∀ k, k < n → Pf (F k)) := by
  obtain ⟨a1, len, cap, rfl⟩ := okWide_slice ht hval
  obtain ⟨fuel, hf⟩ := h1
  rcases Go.Deep.open_slice ht hf with ⟨hcs, hx⟩ | ⟨a, len', cap', m, n, D, Pl, hcs, _, hl, hm, hmm, hx, hcell⟩
  · simp [Value.cells] at hcs
    obtain ⟨rfl, rfl, rfl⟩ := hcs
    exact ⟨none, 0, 0, fun _ => [], rfl, fun h => absurd h (by omega), Nat.le_refl _, by omega, fun _ => ⟨rfl, rfl⟩, fun k hk => by omega⟩
  · simp [Value.cells] at hcs
    obtain ⟨rfl, rfl, rfl⟩ := hcs
    simp only [if_true] at hmm
    subst hmm
    rw [hc] at hcell
    obtain ⟨F, hF⟩ := Go.Deep.choose_lt (fun i hi => hcell i hi)
    refine ⟨some a, len, m, F, rfl, fun hp => ?_, hl, (by unfold maxLen at hm; exact hm), (fun h => by cases h), fun k hk => hP _ _ _ (hF k (by omega)).2⟩
    obtain ⟨ab, ao, spot⟩ := a
    obtain ⟨_, hlen, hcl⟩ := World.cells?_some (hF 0 (by omega)).1
    have h0 := hcl 0 hs
    rw [List.getElem?_eq_getElem (by omega)] at h0
    have hspot : spot = none := by simpa [Addr.add] using World.cell?_spot h0
    subst hspot
    refine ⟨ab, ao, rfl, ?_, fun k hk => ?_⟩
    · have := World.block_lt_of_cell? W _ h0
      simpa [ofAdd] using this
    · obtain ⟨_, hlen, hcl⟩ := World.cells?_some (hF k (by omega)).1
      refine ⟨hlen, fun j u hu => ?_⟩
      have hj : j < s := by rw [← hlen]; exact (List.getElem?_eq_some_iff.1 hu).1
      have := hcl j hj
      rw [ofAdd, ofAdd, hu] at this
      exact this
end
section
variable {P : Program} {ops : Array Oper} {rest : List Oper} {o : Oper} {a : Act} {w : World} {Q : Exit → Act → World → Prop}
/-- a struct is read where a range of cells is known -/
theorem wpl_loadr (hw : Region.wanted o (yielded ops a.tmps) = true) (T : TypeId) (x : Operand) (ho : o.op = .load T x) (b i : Nat) (hx : a.eval x = .pointer (some ⟨b, i, none⟩)) (sub : List Value) (hr : w.rangeAt b i sub) (d : TypeDesc)
    (hu : P.underlying T = some d) (hd : d.isRow = true) (n : Nat) (hi : (P.info? T).map (·.size) = some n) (hn : sub.length = n)
    (h : wpList P ops Q rest (a.put o.dst (.agg sub.toArray)) w) : wpList P ops Q (o :: rest) a w := by
  subst hn
  exact wpl_want hw fun K hK => wp_load_mid T x ho b i hx sub d hr hu hd hi (hK _ _ h)
/-- one cell is read where it is known -/
theorem wpl_loadc (hw : Region.wanted o (yielded ops a.tmps) = true) (T : TypeId) (x : Operand) (ho : o.op = .load T x) (b i : Nat) (hx : a.eval x = .pointer (some ⟨b, i, none⟩)) (v : Value) (hcell : w.cell? ⟨b, i, none⟩ = some v) (d : TypeDesc)
    (hu : P.underlying T = some d) (hd : d.isRow = false)
    (h : wpList P ops Q rest (a.put o.dst v) w) : wpList P ops Q (o :: rest) a w := by
  refine wpl_want hw fun K hK => ?_
  have hagg : (isAgg T).run P w = .ok false w := by
    unfold isAgg
    rw [Sem.run_bind, run_underlying hu w]
    cases d <;> simp_all
  have hr : (Instr.loadAt T (.pointer (some ⟨b, i, none⟩))).run P w = .ok v w := by
    simp [Instr.loadAt, Instr.sureAddr, loadVar, Sem.run_bind, hagg, hcell, go_sem]
  unfold Oper.wp execOp
  simp only [ho, hx, Sem.run_bind, hr, Result.andThen_ok, Sem.run_pure]
  exact hK _ _ h
end
end Go.Proofs.Ytdnmjeapihjabaa
namespace Go.Proofs.Ytdnmjeapihjabaa
open Go.ChangeShapes Go.WideShapes Go.ChangeAt Go.RowKit Go.Joins
set_option linter.unusedSimpArgs false
set_option linter.unusedVariables false
set_option maxRecDepth 100000
theorem cellsU8 : Try.prog.cellsOf 5 = 1 := by kernel_rfl
theorem bytesU8 : Try.prog.bytesOf 5 = 1 := by kernel_rfl
section
variable {H : Type} {enc : TypeId × Value → H}
theorem open_bs {W : World} {base : Nat} {v : Value} {d : DataW H} {ps : List MemPlace} (hval : Value.okWide Try.prog W .any base 39 v) (h1 : DataW.Trod enc Try.prog W 0 (fun _ => true) true 39 v d ps) :
    ∃ (A : Option Addr) (n c : Nat) (l : List Int), v = .slice A n c ∧ l.length = n ∧ Bs W 0 W.heap.size A l ∧ n ≤ c ∧ (A = none → n = 0 ∧ c = 0) ∧
      (∀ {ts : List TypeId} {ds : List (DataW H)}, (DataW.weightsEach Try.prog ts ds).all (· ≤ reachBytes) = true → ∀ {j : Nat}, ts[j]? = some 39 → ds[j]? = some d → c ≤ 140737488351232) := by
  obtain ⟨a1, len, cap, rfl⟩ := okWide_slice Try.underlying39 hval
  obtain ⟨fuel, hf⟩ := h1
  rcases open_ints Try.underlying39 Try.underlying5 cellsU8 hf with ⟨hcs, hx⟩ | ⟨a, len', cap', zs, hcs, _, hl, hm, hz, hx, hcell, hwz⟩
  · simp [Value.cells] at hcs
    obtain ⟨rfl, rfl, rfl⟩ := hcs
    exact ⟨none, 0, 0, [], rfl, rfl, Bs.nil, Nat.le_refl _, fun _ => ⟨rfl, rfl⟩, fun _ _ _ _ => by omega⟩
  · simp [Value.cells] at hcs
    obtain ⟨rfl, rfl, rfl⟩ := hcs
    simp only [Prod.mk.injEq] at hx
    obtain ⟨rfl, rfl⟩ := hx
    simp only [if_true] at hz
    refine ⟨some a, len, cap, zs.take len, rfl, by rw [List.length_take]; omega, ?_, hl, (by intro h; cases h), fun {ts ds} hsz {j} ht hd => ?_⟩
    · refine ⟨fun x hx => ?_, fun hp => ?_⟩
      · exact bounds_u8 (hwz x (List.mem_of_mem_take hx))
      · rw [List.length_take] at hp
        obtain ⟨ab, ao, spot⟩ := a
        have h0 := hcell 0 (by omega)
        have hspot : spot = none := by simpa [Addr.add] using World.cell?_spot h0
        subst hspot
        refine ⟨ab, ao, rfl, Nat.zero_le _, ?_, fun k hk => ?_⟩
        · have := World.block_lt_of_cell? W _ h0
          simpa [ofAdd] using this
        · rw [List.length_take] at hk
          have hck := hcell k (by omega)
          rw [ofAdd] at hck
          rw [hck]
          have hkl : k < len := by omega
          simp [atB, List.getD_eq_getElem?_getD, List.getElem?_take, hkl]
    · have h := sized_slice hsz ht hd Try.underlying39
      rw [bytesU8] at h
      simp [lits, reachBytes] at h
      omega
end
end Go.Proofs.Ytdnmjeapihjabaa
namespace Go.Proofs.Ytdnmjeapihjabaa
open Go.ChangeShapes Go.WideShapes Go.ChangeAt Go.RowKit Go.Joins
set_option linter.unusedSimpArgs false
set_option linter.unusedVariables false
set_option maxRecDepth 100000
/-- the kind and the bytes of field k -/
def kdL (L : List (Int × List Int)) (k : Nat) : Int := (L.getD k (0, [])).1
def dtL (L : List (Int × List Int)) (k : Nat) : List Int := (L.getD k (0, [])).2
/-- a field's two cells, and its bytes in blocks below hi -/
def Xf (w : World) (hi b o : Nat) (kd : Int) (dt : List Int) : Prop :=
  ∃ A c, w.cell? ⟨b, o, none⟩ = some (.int .i64 kd) ∧ w.cell? ⟨b, o + 1, none⟩ = some (.slice A dt.length c) ∧ Bs w 0 hi A dt ∧ dt.length ≤ c ∧ c ≤ 9223372036854775807 ∧ (A = none → dt.length = 0 ∧ c = 0)
/-- a slice address of the fields L, all in blocks below hi -/
def Xs (w : World) (hi : Nat) (A : Option Addr) (L : List (Int × List Int)) : Prop :=
  0 < L.length → ∃ b o, A = some ⟨b, o, none⟩ ∧ b < hi ∧ ∀ k, k < L.length → Xf w hi b (o + k * 2) (kdL L k) (dtL L k)
section
variable {w w' : World} {hi hi' b o B : Nat} {A : Option Addr} {L : List (Int × List Int)} {kd : Int} {dt : List Int}
theorem Xf.below (h : Xf w hi b o kd dt) (hb : Below B w w') (h1 : hi ≤ B) (h2 : b < B) : Xf w' hi b o kd dt := by
  obtain ⟨A, c, c0, c1, hB, h3, h4, h5⟩ := h
  exact ⟨A, c, kept_cell hb c0 h2, kept_cell hb c1 h2, hB.below hb h1, h3, h4, h5⟩
theorem Xf.wide (h : Xf w hi b o kd dt) (h1 : hi ≤ hi') : Xf w hi' b o kd dt := by
  obtain ⟨A, c, c0, c1, hB, h3, h4, h5⟩ := h
  exact ⟨A, c, c0, c1, hB.wide (Nat.le_refl _) h1, h3, h4, h5⟩
theorem Xs.below (h : Xs w hi A L) (hb : Below B w w') (h1 : hi ≤ B) : Xs w' hi A L := fun hn => by
  obtain ⟨b, o, e, h2, hc⟩ := h hn
  exact ⟨b, o, e, h2, fun k hk => (hc k hk).below hb h1 (by omega)⟩
theorem Xs.wide (h : Xs w hi A L) (h1 : hi ≤ hi') : Xs w hi' A L := fun hn => by
  obtain ⟨b, o, e, h2, hc⟩ := h hn
  exact ⟨b, o, e, by omega, fun k hk => (hc k hk).wide h1⟩
theorem Xs.take (h : Xs w hi A L) (m : Nat) : Xs w hi A (L.take m) := fun hn => by
  rw [List.length_take] at hn
  obtain ⟨b, o, e, h2, hc⟩ := h (by omega)
  refine ⟨b, o, e, h2, fun k hk => ?_⟩
  rw [List.length_take] at hk
  have e1 : (L.take m).getD k (0, []) = L.getD k (0, []) := by
    rw [List.getD_eq_getElem?_getD, List.getD_eq_getElem?_getD, List.getElem?_take, if_pos (by omega)]
  unfold kdL dtL
  rw [e1]
  exact hc k (by omega)
theorem Xs.nil : Xs w hi A [] := fun h => by simp at h
end
theorem weights_elem {H : Type} {P : Program} {t e : TypeId} {d : DataW H} {elems spare : List (DataW H)} (hu : P.underlying t = some (.slice e)) (hd : d ∈ elems) {n : Nat} (hn : n ∈ d.weights P e) : n ∈ (DataW.slice elems spare).weights P t := by
  have all : ∀ l : List (DataW H), d ∈ l → n ∈ DataW.weightsAll P e l := fun l => by
    induction l with
    | nil => intro h; cases h
    | cons x r ih =>
      intro h
      rw [DataW.weightsAll]
      rcases List.mem_cons.1 h with rfl | h
      · exact List.mem_append_left _ hn
      · exact List.mem_append_right _ (ih h)
  rw [DataW.weights, hu]
  simp only [List.mem_cons, List.mem_append]
  exact .inr (.inl (all _ hd))
theorem cellsExt : Try.prog.cellsOf 71 = 2 := by kernel_rfl
theorem cellsI64 : Try.prog.cellsOf 3 = 1 := by kernel_rfl
theorem cellsSl8 : Try.prog.cellsOf 39 = 1 := by kernel_rfl
theorem sizeExt : (Try.prog.info? 71).map (·.size) = some 2 := by kernel_rfl
theorem zeroExt : (Try.prog.info? 71).map (·.zero) = some (some (.agg #[.int .i64 0, .slice none 0 0])) := by kernel_rfl
section
variable {H : Type} {enc : TypeId × Value → H}
/-- a byte slice that is a cell -/
theorem cell_bs {W : World} {base : Nat} {spare : Nat → Bool} {fuel : Nat} {v : Value} {x : DataW H × List MemPlace} (hs : ∀ b, spare b = true) (hf : DataW.trod enc Try.prog W base spare true fuel 39 [v] = some x) :
    ∃ (A : Option Addr) (n c : Nat) (l : List Int), v = .slice A n c ∧ l.length = n ∧ Bs W 0 W.heap.size A l ∧ n ≤ c ∧ c ≤ 9223372036854775807 ∧ (A = none → n = 0 ∧ c = 0) ∧ (0 < c → c ∈ x.1.weights Try.prog 39) := by
  rcases open_ints Try.underlying39 Try.underlying5 cellsU8 hf with ⟨hcs, hx⟩ | ⟨a, len', cap', zs, hcs, _, hl, hm, hz, hx, hcell, hwz⟩
  · simp at hcs
    subst hcs
    exact ⟨none, 0, 0, [], rfl, rfl, Bs.nil, Nat.le_refl _, by omega, fun _ => ⟨rfl, rfl⟩, fun h => absurd h (by omega)⟩
  · simp at hcs
    subst hcs
    rw [hs] at hz
    simp only [if_true] at hz
    refine ⟨some a, len', cap', zs.take len', rfl, by rw [List.length_take]; omega, ?_, hl, by unfold maxLen at hm; exact hm, (fun h => by cases h), fun hc => ?_⟩
    · refine ⟨fun y hy => ?_, fun hp => ?_⟩
      · exact bounds_u8 (hwz y (List.mem_of_mem_take hy))
      · rw [List.length_take] at hp
        obtain ⟨ab, ao, spot⟩ := a
        have h0 := hcell 0 (by omega)
        have hspot : spot = none := by simpa [Addr.add] using World.cell?_spot h0
        subst hspot
        refine ⟨ab, ao, rfl, Nat.zero_le _, ?_, fun k hk => ?_⟩
        · have := World.block_lt_of_cell? W _ h0
          simpa [ofAdd] using this
        · rw [List.length_take] at hk
          have hck := hcell k (by omega)
          rw [ofAdd] at hck
          rw [hck]
          have hkl : k < len' := by omega
          simp [atB, List.getD_eq_getElem?_getD, List.getElem?_take, hkl]
    · rw [hx]
      rw [DataW.weights, Try.underlying39]
      simp only [List.mem_cons]
      left
      rw [bytesU8]
      simp [lits]
      omega
end
end Go.Proofs.Ytdnmjeapihjabaa
namespace Go.Proofs.Ytdnmjeapihjabaa
open Go.RowKit
set_option linter.unusedSimpArgs false
set_option linter.unusedVariables false
set_option maxRecDepth 100000
theorem ext_take {l m : List Int} (k : Nat) (h : l.take k = m.take k) (hl : l.length ≤ k) (hm : m.length ≤ k) : l = m := by
  rw [List.take_of_length_le hl, List.take_of_length_le hm] at h; exact h
theorem take_eq_succ {l m : List Int} {k : Nat} (h : l.take k = m.take k) (hl : k < l.length) (hm : k < m.length) (he : atB l k = atB m k) : l.take (k + 1) = m.take (k + 1) := by
  rw [List.take_add_one, List.take_add_one, h]
  congr 2
  rw [List.getElem?_eq_getElem hl, List.getElem?_eq_getElem hm]
  unfold atB at he
  rw [List.getD_eq_getElem?_getD, List.getD_eq_getElem?_getD, List.getElem?_eq_getElem hl, List.getElem?_eq_getElem hm] at he
  simpa using he
theorem ne_of_at {l m : List Int} {k : Nat} (h : atB l k ≠ atB m k) : l ≠ m := fun e => h (by rw [e])
def eqB (l m : List Int) : Bool := decide (l = m)
theorem eqB_self (l : List Int) : eqB l l = true := by simp [eqB]
set_option maxHeartbeats 2000000 in
theorem clone_any (A : Option Addr) (n c lo hi : Nat) (l : List Int) (w : World) (hn : l.length = n) (h : Bs w lo hi A l) (hh : hi ≤ w.heap.size) (hm : n ≤ 140737488355328) (hA : A = none → n = 0 ∧ c = 0) :
    Calls Try.prog 31 #[.slice A n c] w fun e w' => ∃ A' c', e = .returned (.slice A' n c') ∧ Ow w' w.heap.size A' c' l ∧ w.heap.size ≤ w'.heap.size ∧ Below w.heap.size w w' := by
  subst hn
  rcases A with _ | a
  · obtain ⟨h0, rfl⟩ := hA rfl
    obtain rfl : l = [] := List.eq_nil_of_length_eq_zero h0
    have hnil := fun (W : World) => Go.Lib.run_eql_slice_nil (P := Try.prog) W 39 5 none 0 0 0 0 Try.underlying39
    go_enter Try.func31, Try.ntmps31
    go_wp2
    go_ret
    exact ⟨none, 0, rfl, ⟨Byt.nil, World.ownsRow_nil _ _ _ _⟩, Nat.le_refl _, Below.refl _ _⟩
  · have hO1 := Ow.lit w [] #[] rfl Byt.nil (by simp)
    have hB1 := h.alloc hh (.cells #[] 5)
    have hnil := fun (W : World) => Go.Lib.run_eql_slice_nil (P := Try.prog) W 39 5 (some a) l.length c 0 0 Try.underlying39
    go_enter Try.func31, Try.ntmps31
    go_wp2_with (at_builtin; refine wpList_append_bs rfl (.tmp 5) (.tmp 6) rfl 0 0 l.length c (by rfl) (by rfl) rfl rfl hO1 hB1 (by omega) (by simp) ?_; intro A1 c1 w1 hO hb1 _)
    have hb2 : Below w.heap.size w w1 := Below.trans ((Below.refl _ w).alloc (Nat.le_refl _) _) hb1
    go_ret
    exact ⟨A1, c1, by simp, by simpa using hO, hb2.size, hb2⟩
end Go.Proofs.Ytdnmjeapihjabaa
namespace Go.Proofs.Ytdnmjeapihjabaa
open Go.RowKit
set_option linter.unusedSimpArgs false
set_option linter.unusedVariables false
set_option maxRecDepth 100000
abbrev ivL (a b : Int) : List Value := [.int .i64 a, .int .i64 b]
theorem sizeIv : (Try.prog.info? 38).map (·.size) = some 2 := by kernel_rfl
theorem zeroIv : (Try.prog.info? 38).map (·.zero) = some (some (.agg #[.int .i64 0, .int .i64 0])) := by kernel_rfl
def ivB (a b : Int) : Bool := decide (-8000000000000000000 ≤ a ∧ a ≤ b ∧ b ≤ 8000000000000000000)
theorem isInterval_any (a b : Int) (w : World) : Calls Try.prog 35 #[.agg (ivL a b).toArray] w fun e w' => e = .returned (.bool (ivB a b)) ∧ Below w.heap.size w w' := by
  by_cases h1 : -8000000000000000000 ≤ a
  · by_cases h2 : a ≤ b
    · by_cases h3 : b ≤ 8000000000000000000
      · have HD : Hid (ivB a b = true) := decide_eq_true ⟨h1, h2, h3⟩
        have h1' : decide (-8000000000000000000 ≤ a) = true := decide_eq_true h1
        have h2' : decide (a ≤ b) = true := decide_eq_true h2
        have h3' : decide (b ≤ 8000000000000000000) = true := decide_eq_true h3
        go_enter Try.func35, Try.ntmps35
        go_wp2_with (first | (refine wpl_box (by rfl) 38 _ (by rfl) _ (ivL a b) (by rfl) rfl ?_; intro w1 P1 s1 b1) | (refine wpl_loadf (by rfl) 3 _ (by rfl) w.heap.size 0 (by rfl) _ _ P1 _ rfl _ Try.underlying3 rfl ?_) | (refine wpl_loadf (by rfl) 3 _ (by rfl) w.heap.size 1 (by rfl) _ _ P1 _ rfl _ Try.underlying3 rfl ?_))
        go_ret
        exact ⟨ret_bool HD.out.symm, b1⟩
      · have HD : Hid (ivB a b = false) := decide_eq_false (fun h => h3 h.2.2)
        have h1' : decide (-8000000000000000000 ≤ a) = true := decide_eq_true h1
        have h2' : decide (a ≤ b) = true := decide_eq_true h2
        have h3' : decide (b ≤ 8000000000000000000) = false := decide_eq_false h3
        go_enter Try.func35, Try.ntmps35
        go_wp2_with (first | (refine wpl_box (by rfl) 38 _ (by rfl) _ (ivL a b) (by rfl) rfl ?_; intro w1 P1 s1 b1) | (refine wpl_loadf (by rfl) 3 _ (by rfl) w.heap.size 0 (by rfl) _ _ P1 _ rfl _ Try.underlying3 rfl ?_) | (refine wpl_loadf (by rfl) 3 _ (by rfl) w.heap.size 1 (by rfl) _ _ P1 _ rfl _ Try.underlying3 rfl ?_))
        go_ret
        exact ⟨ret_bool HD.out.symm, b1⟩
    · have HD : Hid (ivB a b = false) := decide_eq_false (fun h => h2 h.2.1)
      have h1' : decide (-8000000000000000000 ≤ a) = true := decide_eq_true h1
      have h2' : decide (a ≤ b) = false := decide_eq_false h2
      go_enter Try.func35, Try.ntmps35
      go_wp2_with (first | (refine wpl_box (by rfl) 38 _ (by rfl) _ (ivL a b) (by rfl) rfl ?_; intro w1 P1 s1 b1) | (refine wpl_loadf (by rfl) 3 _ (by rfl) w.heap.size 0 (by rfl) _ _ P1 _ rfl _ Try.underlying3 rfl ?_) | (refine wpl_loadf (by rfl) 3 _ (by rfl) w.heap.size 1 (by rfl) _ _ P1 _ rfl _ Try.underlying3 rfl ?_))
      go_ret
      exact ⟨ret_bool HD.out.symm, b1⟩
  · have HD : Hid (ivB a b = false) := decide_eq_false (fun h => h1 h.1)
    have h1' : decide (-8000000000000000000 ≤ a) = false := decide_eq_false h1
    go_enter Try.func35, Try.ntmps35
    go_wp2_with (first | (refine wpl_box (by rfl) 38 _ (by rfl) _ (ivL a b) (by rfl) rfl ?_; intro w1 P1 s1 b1) | (refine wpl_loadf (by rfl) 3 _ (by rfl) w.heap.size 0 (by rfl) _ _ P1 _ rfl _ Try.underlying3 rfl ?_) | (refine wpl_loadf (by rfl) 3 _ (by rfl) w.heap.size 1 (by rfl) _ _ P1 _ rfl _ Try.underlying3 rfl ?_))
    go_ret
    exact ⟨ret_bool HD.out.symm, b1⟩
def ivE (a b : Int) : Int := if ivB a b = true then 0 else 3
theorem ivE_no {a b : Int} (h : ivB a b = false) : ivE a b = 3 := by unfold ivE; rw [h]; rfl
/-! ### put and get -/
def u64 (n : Int) : Int := n % 18446744073709551616
theorem u64_rng (n : Int) : 0 ≤ u64 n ∧ u64 n < 18446744073709551616 := by unfold u64; omega
/-- the cells while bytes are put: those from k on are there -/
def ptC (cs : List Value) (off : Nat) (N : Int) (k : Nat) : List Value := cs.take (off + k) ++ (((bytesB 8 N).drop k).map (Value.int .u8) ++ cs.drop (off + 8))
theorem ptC_len {cs : List Value} {off : Nat} {N : Int} {k : Nat} (h : off + 8 ≤ cs.length) (hk : k ≤ 8) : (ptC cs off N k).length = cs.length := by
  unfold ptC
  simp only [List.length_append, List.length_take, List.length_map, List.length_drop, bytesB_length]
  omega
theorem ptC_set {cs : List Value} {off : Nat} {N : Int} {k : Nat} (h : off + 8 ≤ cs.length) (hk : k < 8) : (ptC cs off N (k + 1)).set (off + k) (.int .u8 (atB (bytesB 8 N) k)) = ptC cs off N k := by
  unfold ptC
  have e1 : cs.take (off + (k + 1)) = cs.take (off + k) ++ [cs[off + k]'(by omega)] := by
    rw [← Nat.add_assoc, List.take_succ_eq_append_getElem (by omega)]
  have e2 : (bytesB 8 N).drop k = atB (bytesB 8 N) k :: (bytesB 8 N).drop (k + 1) := by
    rw [List.drop_eq_getElem_cons (by rw [bytesB_length]; omega)]
    congr 1
    unfold atB
    rw [List.getD_eq_getElem?_getD, List.getElem?_eq_getElem (by rw [bytesB_length]; omega)]
    rfl
  have hl : (cs.take (off + k)).length = off + k := by rw [List.length_take]; omega
  rw [e1, e2, List.append_assoc, List.set_append_right _ _ (by omega), hl, Nat.sub_self]
  simp
theorem ptC_8 {cs : List Value} {off : Nat} {N : Int} (h : off + 8 ≤ cs.length) : ptC cs off N 8 = cs := by
  unfold ptC
  rw [List.drop_of_length_le (by rw [bytesB_length]; omega)]
  simp
set_option maxHeartbeats 1000000 in
theorem sput_any (g off c : Nat) (cs : List Value) (t : TypeId) (n : Int) (w : World) (H : Blk w g t cs) (hl : off + 8 ≤ cs.length) (hc : 8 ≤ c) :
    Calls Try.prog 50 #[.slice (some ⟨g, off, none⟩) 8 c, .int .i64 n] w fun e w' => e = .returned (.tuple #[]) ∧ Blk w' g t (ptC cs off (u64 n) 0) ∧ But g w w' := by
  have hu := u64_rng n
  have hw : IntKind.u64.wrap n = u64 n := IntKind.wrap_u64 n
  generalize u64 n = N at hu hw ⊢
  go_enter Try.func50, Try.ntmps50
  go_wp2
  go_loopw [4, 5] (fun r i wr => But g w wr ∧ ((∃ j : Nat, j < 8 ∧ i = .int .i64 j ∧ r = .int .u64 (N / 256 ^ (7 - j)) ∧ Blk wr g t (ptC cs off N (j + 1))) ∨ (i = .int .i64 (-1) ∧ Blk wr g t (ptC cs off N 0)))) (fun _ i _ => (intOf i + 1).toNat)
  case atStart => exact ⟨But.refl _ _, .inl ⟨7, by omega, rfl, by simp, by rw [ptC_8 hl]; exact H⟩⟩
  case round =>
    obtain ⟨hB, ⟨j, hj, rfl, rfl, hH⟩ | ⟨rfl, hH⟩⟩ := hrel
    · have hv : Hid (IntKind.u8.wrap (N / 256 ^ (7 - j)) = atB (bytesB 8 N) j) := by
        show IntKind.u8.wrap _ = _
        rw [bytesB_at 8 N j hj, IntKind.wrap_u8]
      have hlen := ptC_len (N := N) (k := j + 1) hl (by omega)
      have hset := ptC_set (N := N) hl hj
      have hj1 : (j : Int) < 8 := by omega
      have hj0 : (0 : Int) ≤ j := by omega
      have hq : ∀ m : Nat, N / 256 ^ m / 256 = N / 256 ^ (m + 1) := fun m => by rw [Int.pow_succ, Int.ediv_ediv_of_nonneg (Int.pow_nonneg (by omega))]
      have HQ := Lib.hid hq
      clear hq hu hw
      go_wp2_with (refine wpl_storeg (by rfl) 5 _ _ (by rfl) g (off + j) (by rfl) (.int .u8 (IntKind.u8.wrap (N / 256 ^ (7 - j)))) (by rfl) (by rfl) (by simp [Value.oneCell']) _ _ (ptC cs off N j) hH (by rw [hlen]; omega) sizeU8 (by rw [hv.out]; exact hset) ?_; intro w2 H2 s2 g2)
      refine ⟨⟨hB.trans g2, ?_⟩, by simp [intOf] <;> omega⟩
      rcases j with _ | j
      · exact .inr ⟨by simp, H2⟩
      · refine .inl ⟨j, by omega, by simp, vint ?_, H2⟩
        have := HQ.out (7 - (j + 1))
        rw [show 7 - (j + 1) + 1 = 7 - j by omega] at this
        exact this
    · go_wp2
      go_end0
      exact ⟨rfl, hH, hB⟩
end Go.Proofs.Ytdnmjeapihjabaa
namespace Go.Proofs.Ytdnmjeapihjabaa
open Go.RowKit
set_option linter.unusedSimpArgs false
set_option linter.unusedVariables false
set_option maxRecDepth 100000
def i64 (n : Int) : Int := wrap64 n
set_option maxHeartbeats 1000000 in
theorem sget_any (A : Option Addr) (n c lo hi : Nat) (l : List Int) (w : World) (hn : l.length = n) (h : Bs w lo hi A l) (hm : l.length ≤ 9223372036854775807) :
    Calls Try.prog 34 #[.slice A n c] w fun e w' => e = .returned (.int .i64 (i64 (numB l))) ∧ w = w' := by
  subst hn
  go_enter Try.func34, Try.ntmps34
  go_wp2
  go_loop [3, 8] (fun n i => ∃ k : Nat, k ≤ l.length ∧ i = .int .i64 k ∧ n = .int .u64 (numB (l.take k))) (fun _ i => l.length - (intOf i).toNat)
  case atStart => exact ⟨0, by omega, rfl, by simp [numB]⟩
  case round =>
    obtain ⟨k, hk, rfl, rfl⟩ := hrel
    by_cases hlt : k < l.length
    · obtain ⟨b, o, rfl, _, _, hc⟩ := h.at (by omega)
      have hck := hc k hlt
      have hby := h.byt.at k
      have hS := numB_succ l k hlt
      have hr := numB_range (l.take k)
      have hO := shl_or (numB (l.take k)) (atB l k) hr.1 hby
      have hw : IntKind.u64.wrap (atB l k) = atB l k := by rw [IntKind.wrap_u64]; omega
      go_wp2
      exact ⟨⟨k + 1, by omega, by go_num, by rw [hS]⟩, by simp [intOf]; omega⟩
    · obtain rfl : k = l.length := by omega
      go_wp2
      have hw2 : Hid (wrap64 (numB l) = i64 (numB l)) := rfl
      go_ret
      exact ⟨ret_int (by first | exact hw2.out | (rw [List.take_length]; exact hw2.out)), rfl⟩
abbrev exV (k : Int) (A : Option Addr) (n c : Nat) : Value := .agg #[.int .i64 k, .slice A n c]
abbrev exL (k : Int) (A : Option Addr) (n c : Nat) : List Value := [.int .i64 k, .slice A n c]
theorem cells2 {w : World} {g : Nat} {t : TypeId} {a0 a1 : Value} (h : Blk w g t [a0, a1]) : w.cell? ⟨g, 0, none⟩ = some a0 ∧ w.cell? ⟨g, 1, none⟩ = some a1 := ⟨h.cell rfl, h.cell rfl⟩
set_option maxHeartbeats 2000000 in
theorem field_no (a b : Int) (w : World) (h : ivB a b = false) : Calls Try.prog 21 #[.agg (ivL a b).toArray] w fun e w' => e = .returned (.tuple #[exV 0 none 0 0, .int .i64 2]) ∧ Below w.heap.size w w' := by
  have hI := fun W => isInterval_any a b W
  simp only [h] at hI
  clear h
  go_enter Try.func21, Try.ntmps21
  go_wp2_with (first
    | (refine wpl_box (by rfl) 38 _ (by rfl) _ (ivL a b) (by rfl) rfl ?_; intro w1 P1 s1 b1)
    | ((refine wpl_alloc (by rfl) 71 (by rfl) (.agg (exL 0 none 0 0).toArray) (exL 0 none 0 0) zeroExt rfl ?_; intro w2 J2 s2 b2); (have P2 := P1.below b2 (by omega)))
    | (refine wpl_load (by rfl) 38 _ (by rfl) w.heap.size (by rfl) 38 _ P2 _ Try.underlying38 rfl _ sizeIv (by rfl) ?_)
    | (go_at_call 35; ((with_reducible refine (hI _).mono ?_); rintro e w3 ⟨rfl, b3⟩; (have P3 := P2.below b3 (by omega)); (have J3 := J2.below b3 (by omega)); (have z3 := b3.size)))
    | (refine wpl_store (by rfl) 71 _ _ (by rfl) w1.heap.size (by rfl) _ (by rfl) _ rfl 71 _ J3 (by rfl) _ sizeExt (by rfl) (by simp [Value.oneCell']) ?_; intro w4 J4 s4 g4))
  obtain ⟨k0, k1⟩ := cells2 J4
  refine bodyPost_ret (v := .tuple #[exV 0 none 0 0, .int .i64 2]) (by simp [results, Try.results21, go_sem, k0, k1]) rfl ?_
  exact ⟨rfl, ((b1.trans (b2.mono (by omega))).trans (b3.mono (by omega))).trans (g4.below (by omega) (by omega))⟩
set_option maxHeartbeats 4000000 in
theorem field_ok (a b : Int) (w : World) (h : ivB a b = true) : Calls Try.prog 21 #[.agg (ivL a b).toArray] w fun e w' => ∃ g, e = .returned (.tuple #[exV 28929 (some ⟨g, 0, none⟩) 16 16, .int .i64 0]) ∧ Blk w' g 5 ((bytesB 8 (u64 a) ++ bytesB 8 (u64 b)).map (Value.int .u8)) ∧ w.heap.size ≤ g ∧ Below w.heap.size w w' := by
  have hI := fun W => isInterval_any a b W
  simp only [h] at hI
  have hmk : ∀ W : World, (Instr.makeSlice 39 (.int .i64 16) (.int .i64 16)).run Try.prog W = .ok (.slice (some ⟨W.heap.size, 0, none⟩) 16 16) (W.alloc (.cells (madeCells #[.int .u8 0] 16) 5)) := fun W => makeU8 .i64 .i64 16 (by omega) W
  clear h
  go_enter Try.func21, Try.ntmps21
  go_wp2_with (first
    | (refine wpl_box (by rfl) 38 _ (by rfl) _ (ivL a b) (by rfl) rfl ?_; intro w1 P1 s1 b1)
    | ((refine wpl_alloc (by rfl) 71 (by rfl) (.agg (exL 0 none 0 0).toArray) (exL 0 none 0 0) zeroExt rfl ?_; intro w2 J2 s2 b2); (have P2 := P1.below b2 (by omega)))
    | (refine wpl_load (by rfl) 38 _ (by rfl) w.heap.size (by rfl) 38 _ P2 _ Try.underlying38 rfl _ sizeIv (by rfl) ?_)
    | (go_at_call 35; ((with_reducible refine (hI _).mono ?_); rintro e w3 ⟨rfl, b3⟩; (have P3 := P2.below b3 (by omega)); (have J3 := J2.below b3 (by omega)); (have z3 := b3.size)))
    | (refine wpl_store (by rfl) 71 _ _ (by rfl) w1.heap.size (by rfl) _ (by rfl) _ rfl 71 _ J3 (by rfl) _ sizeExt (by rfl) (by simp [Value.oneCell']) ?_; intro w4 J4 s4 g4))
  obtain ⟨w4, hw4⟩ : ∃ w4, w4 = w3.alloc (.cells (madeCells #[.int .u8 0] 16) 5) := ⟨_, rfl⟩
  have M4 : Blk w4 w3.heap.size 5 (List.replicate 16 (.int .u8 0)) := by rw [hw4]; exact Blk.new w3 _ _ _ (by kernel_rfl)
  have b4 : Below w3.heap.size w3 w4 := by rw [hw4]; exact (Below.refl _ _).alloc (Nat.le_refl _) _
  have z4 := M4.lt
  rw [← hw4]
  have P4 := P3.below b4 (by omega)
  have J4 := J3.below b4 (by omega)
  have B4 := ((b1.trans (b2.mono (by omega))).trans (b3.mono (by omega))).trans (b4.mono (by omega))
  clear hw4 P3 J3 b1 b2 b3 b4 J2 P2 hmk hI
  have q1 : Kc w4 [w3.heap.size] w.heap.size 0 (.int .i64 a) := ⟨P4.cell rfl, by simp; omega⟩
  have q2 : Kc w4 [w3.heap.size] w.heap.size 1 (.int .i64 b) := ⟨P4.cell rfl, by simp; omega⟩
  have M4d := M4.drew
  go_region_held3 (fun w' => w'.cell? ⟨w.heap.size, 0, none⟩ = some (.int .i64 a) ∧ Kp w4 [w3.heap.size] w') (((try go_split_ands); (with_reducible refine kp1 ?_ q1); (repeat (with_reducible first | (refine Kp.set ?_ ?_; rotate_left; (with_reducible first | exact Or.inl (Nat.le_refl _) | exact Or.inr (List.mem_cons_self ..) | (refine Or.inl ?_; assumption) | (refine Or.inl (Kp.size ?_); assumption))) | refine Kp.drew ?_ | refine Kp.alloc _ ?_ | assumption | exact Kp.refl _ _ | exact Kp.belowS hb (by assumption) | exact Kp.but hg (by assumption) (Or.inr (List.mem_cons_self ..)))))) (first
    | (go_at_call 50; ((with_reducible refine (sput_any w3.heap.size 0 16 _ _ a _ M4d (by simp) (by omega)).mono ?_); rintro e w5 ⟨rfl, M5, hg⟩; (have K5 : Kp w4 [w3.heap.size] w5 := by (go_split_ands; exact Kp.but hg (by assumption) (.inr (List.mem_cons_self ..)))))))
  clear hg M4d
  go_wp2_with fail
  have q3 : Kc w5 [w3.heap.size] w.heap.size 1 (.int .i64 b) := ⟨kp_cell K5 q2, q2.2⟩
  have M5d := M5.drew
  go_region_held3 (fun w' => w'.cell? ⟨w.heap.size, 1, none⟩ = some (.int .i64 b) ∧ Kp w5 [w3.heap.size] w') (((try go_split_ands); (with_reducible refine kp1 ?_ q3); (repeat (with_reducible first | (refine Kp.set ?_ ?_; rotate_left; (with_reducible first | exact Or.inl (Nat.le_refl _) | exact Or.inr (List.mem_cons_self ..) | (refine Or.inl ?_; assumption) | (refine Or.inl (Kp.size ?_); assumption))) | refine Kp.drew ?_ | refine Kp.alloc _ ?_ | assumption | exact Kp.refl _ _ | exact Kp.belowS hb (by assumption) | exact Kp.but hg (by assumption) (Or.inr (List.mem_cons_self ..)))))) (first
    | (go_at_call 50; ((with_reducible refine (sput_any w3.heap.size 8 8 _ _ b _ M5d (by rw [ptC_len (by simp) (by omega)]; simp) (by omega)).mono ?_); rintro e w6 ⟨rfl, M6, hg⟩; (have K6 : Kp w5 [w3.heap.size] w6 := by (go_split_ands; exact Kp.but hg (by assumption) (.inr (List.mem_cons_self ..)))))))
  clear hg M5d
  have K46 := K5.trans K6
  have J6 := K46.blk J4 (by simp; omega)
  have B6 := K46.toBelow B4 (by omega) (by intro g hg; simp at hg; omega)
  have z6 := K46.size
  have hM : ptC (ptC (List.replicate 16 (Value.int .u8 0)) 0 (u64 a) 0) 8 (u64 b) 0 = (bytesB 8 (u64 a) ++ bytesB 8 (u64 b)).map (Value.int .u8) := by
    have l8 : ((bytesB 8 (u64 a)).map (Value.int .u8)).length = 8 := by rw [List.length_map, bytesB_length]
    unfold ptC
    simp only [List.drop_zero, List.take_zero, List.nil_append, Nat.zero_add, Nat.add_zero, List.map_append]
    rw [List.take_append_of_le_length (by omega), List.take_of_length_le (by omega), List.drop_of_length_le (i := 16) (by rw [List.length_append, List.length_drop, l8]; simp)]
    simp
  rw [hM] at M6
  clear hM q1 q2 q3 K5 K6 K46 M4 M5 P4 J4 B4
  go_wp2_with (first | (refine wpl_store (by rfl) 71 _ _ (by rfl) w1.heap.size (by rfl) _ (by rfl) (exL 28929 (some ⟨w3.heap.size, 0, none⟩) 16 16) rfl 71 _ J6 (by rfl) _ sizeExt (by rfl) (by simp [Value.oneCell']) ?_; intro w7 J7 s7 g7))
  have M7 := M6.but g7 (by omega)
  obtain ⟨k0, k1⟩ := cells2 J7
  refine bodyPost_ret (v := .tuple #[exV 28929 (some ⟨w3.heap.size, 0, none⟩) 16 16, .int .i64 0]) (by simp [results, Try.results21, go_sem, k0, k1]) rfl ?_
  exact ⟨w3.heap.size, rfl, M7, by omega, B6.trans (g7.below (by omega) (by omega))⟩
theorem u64_lt8 (n : Int) : u64 n < 256 ^ 8 := by have := u64_rng n; omega
end Go.Proofs.Ytdnmjeapihjabaa
