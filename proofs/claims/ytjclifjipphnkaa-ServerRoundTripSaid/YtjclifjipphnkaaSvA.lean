/- What each function of package server that makes a reply, and its reference, computes. -/
import Derived.Test.YtjclifjipphnkaaSvRoot
import Derived.Test.YtjclifjipphnkaaNtp7
import Derived.Test.YtjclifjipphnkaaNtpT
import Derived.Test.YtjclifjipphnkaaKp
namespace Go.Proofs.Ytjclifjipphnkaa
open Go.RowKit
set_option linter.unusedSimpArgs false
set_option linter.unusedVariables false
set_option maxRecDepth 100000
theorem nchk_03 (l v m st po pr : Int) : nchk l v m st po pr = 0 ∨ nchk l v m st po pr = 3 := by unfold nchk; split <;> simp
theorem sizeHdr : (Try.prog.info? 95).map (·.size) = some 13 := by kernel_rfl
theorem sizeI64 : (Try.prog.info? 3).map (·.size) = some 1 := by kernel_rfl
set_option maxRecDepth 100000 in
set_option maxHeartbeats 1000000 in
theorem valid_yes (l v m st po pr rd rp id ref org rec xmt : Int) (w : World) (h : nchk l v m st po pr = 0) : Calls Try.prog 59 #[ntp l v m st po pr rd rp id ref org rec xmt] w fun e w' => e = .returned (.bool true) ∧ Below w.heap.size w w' := by
  have hC := fun W => nchk_any l v m st po pr rd rp id ref org rec xmt W
  simp only [h] at hC
  clear h
  go_enter Try.func59, Try.ntmps59
  go_wp2_with (first | (refine wpl_box (by rfl) 95 _ (by rfl) _ ([.int .i64 l, .int .i64 v, .int .i64 m, .int .i64 st, .int .i64 po, .int .i64 pr, .int .u32 rd, .int .u32 rp, .int .u32 id, .int .u64 ref, .int .u64 org, .int .u64 rec, .int .u64 xmt]) (by rfl) rfl ?_; intro w1 P1 s1 b1) | (refine wpl_load (by rfl) 95 _ (by rfl) w.heap.size (by rfl) 95 _ P1 _ Try.underlying95 rfl _ sizeHdr (by rfl) ?_) | (go_at_call 27; ((with_reducible refine (hC _).mono ?_); rintro e w2 ⟨rfl, b2⟩)))
  go_ret
  exact ⟨rfl, b1.trans (b2.mono (by omega))⟩
set_option maxRecDepth 100000 in
set_option maxHeartbeats 1000000 in
theorem valid_no (l v m st po pr rd rp id ref org rec xmt : Int) (w : World) (h : nchk l v m st po pr = 3) : Calls Try.prog 59 #[ntp l v m st po pr rd rp id ref org rec xmt] w fun e w' => e = .returned (.bool false) ∧ Below w.heap.size w w' := by
  have hC := fun W => nchk_any l v m st po pr rd rp id ref org rec xmt W
  simp only [h] at hC
  clear h
  go_enter Try.func59, Try.ntmps59
  go_wp2_with (first | (refine wpl_box (by rfl) 95 _ (by rfl) _ ([.int .i64 l, .int .i64 v, .int .i64 m, .int .i64 st, .int .i64 po, .int .i64 pr, .int .u32 rd, .int .u32 rp, .int .u32 id, .int .u64 ref, .int .u64 org, .int .u64 rec, .int .u64 xmt]) (by rfl) rfl ?_; intro w1 P1 s1 b1) | (refine wpl_load (by rfl) 95 _ (by rfl) w.heap.size (by rfl) 95 _ P1 _ Try.underlying95 rfl _ sizeHdr (by rfl) ?_) | (go_at_call 27; ((with_reducible refine (hC _).mono ?_); rintro e w2 ⟨rfl, b2⟩)))
  go_ret
  exact ⟨rfl, b1.trans (b2.mono (by omega))⟩
set_option maxRecDepth 100000 in
theorem asks_any (l v m st po pr rd rp id ref org rec xmt : Int) (w : World) : Calls Try.prog 60 #[ntp l v m st po pr rd rp id ref org rec xmt] w fun e w' => e = .returned (.bool (m == 3)) ∧ Below w.heap.size w w' := by
  go_enter Try.func60, Try.ntmps60
  go_wp2_with (first | (refine wpl_box (by rfl) 95 _ (by rfl) _ ([.int .i64 l, .int .i64 v, .int .i64 m, .int .i64 st, .int .i64 po, .int .i64 pr, .int .u32 rd, .int .u32 rp, .int .u32 id, .int .u64 ref, .int .u64 org, .int .u64 rec, .int .u64 xmt]) (by rfl) rfl ?_; intro w1 P1 s1 b1) | (refine wpl_loadf (by rfl) 3 _ (by rfl) w.heap.size 2 (by rfl) _ _ P1 _ rfl _ Try.underlying3 rfl ?_))
  go_ret
  exact ⟨rfl, b1⟩
def rqE (K m : Int) : Int := if K = 0 then (if m = 3 then 0 else 8) else 2
theorem sizeChk : (Try.prog.info? 97).map (·.size) = some 2 := by kernel_rfl
theorem zeroChk : (Try.prog.info? 97).map (·.zero) = some (some (.agg #[.nilFunc, .int .i64 0])) := by kernel_rfl
abbrev chL : List Value := [.func (.func 59) #[] #[], .int .i64 2, .func (.func 60) #[] #[], .int .i64 8]
set_option maxHeartbeats 4000000 in
theorem checkRequest_bad (l v m st po pr rd rp id ref org rec xmt : Int) (w : World) (h : nchk l v m st po pr = 3) : Calls Try.prog 35 #[ntp l v m st po pr rd rp id ref org rec xmt] w fun e w' => e = .returned (.int .i64 2) ∧ Below w.heap.size w w' := by
  have hV := fun W => valid_no l v m st po pr rd rp id ref org rec xmt W h
  clear h
  go_enter Try.func35, Try.ntmps35
  go_wp2_with (first | (refine wpl_box (by rfl) 25 _ (by rfl) _ ([.int .i64 l, .int .i64 v, .int .i64 m, .int .i64 st, .int .i64 po, .int .i64 pr, .int .u32 rd, .int .u32 rp, .int .u32 id, .int .u64 ref, .int .u64 org, .int .u64 rec, .int .u64 xmt]) (by rfl) rfl ?_; intro w1 P1 s1 b1))
  obtain ⟨w2, hw2⟩ : ∃ w2, w2 = w1.alloc (.cells #[.func (.func 59) #[] #[], .int .i64 2, .func (.func 60) #[] #[], .int .i64 8] 97) := ⟨_, rfl⟩
  have S2 : Blk w2 w1.heap.size 97 chL := by rw [hw2]; exact Blk.new w1 _ _ _ rfl
  have b2 : Below w1.heap.size w1 w2 := by rw [hw2]; exact (Below.refl _ _).alloc (Nat.le_refl _) _
  have z2 : w1.heap.size < w2.heap.size := by rw [hw2]; simp
  rw [← hw2]
  have P2 := P1.below b2 s1
  have B2 := b1.trans (b2.mono b1.size)
  clear hw2 P1 b1 b2
  refine wp_loop_rounds 3 ?_
  rw [rounds_succ]
  go_wp2_with (first
    | (refine wpl_loadm (by rfl) 97 _ (by rfl) w1.heap.size 0 (by rfl) _ _ S2 [.func (.func 59) #[] #[], .int .i64 2] _ Try.underlying97 rfl _ sizeChk (by rfl) (by rfl) ?_)
    | (refine wpl_alloc (by rfl) 97 (by rfl) (.agg ([.nilFunc, .int .i64 0]).toArray) ([.nilFunc, .int .i64 0]) zeroChk rfl ?_; intro w3 J3 s3 b3)
    | (refine wpl_store (by rfl) 97 _ _ (by rfl) w2.heap.size (by rfl) _ (by rfl) [.func (.func 59) #[] #[], .int .i64 2] rfl 97 _ J3 (by rfl) _ sizeChk (by rfl) (by simp [Value.oneCell']) ?_; intro w4 J4 s4 g4)
    | (refine wpl_loadf (by rfl) 94 _ (by rfl) w2.heap.size 0 (by rfl) _ _ J4 _ rfl _ Try.underlying94 rfl ?_)
    | (refine wpl_load (by rfl) 25 _ (by rfl) w.heap.size (by rfl) 25 _ ((P2.below b3 (by omega)).but g4 (by omega)) _ Try.underlying25 rfl _ sizeNtp (by rfl) ?_))
  with_reducible refine (hV _).mono ?_
  rintro e' w5 ⟨rfl, bc⟩
  have Jc := J4.below bc J4.lt
  have Sc := ((S2.below b3 (by omega)).but g4 (by omega)).below bc (by omega)
  have Pc := ((P2.below b3 (by omega)).but g4 (by omega)).below bc (by omega)
  have Bc := ((B2.trans (b3.mono (by omega))).trans (g4.below (by omega) (by omega))).trans (bc.mono (by omega))
  have zc := bc.size
  clear S2 P2 B2 J3 J4 b3 g4 bc
  go_wp2_with (first | (refine wpl_loadf (by rfl) 30 _ (by rfl) w2.heap.size 1 (by rfl) _ _ Jc _ rfl _ Try.underlying30 rfl ?_))
  go_ret
  exact ⟨rfl, Bc⟩
set_option maxHeartbeats 4000000 in
theorem checkRequest_kind (l v m st po pr rd rp id ref org rec xmt : Int) (w : World) (h : nchk l v m st po pr = 0) (hm : (m == 3) = false) : Calls Try.prog 35 #[ntp l v m st po pr rd rp id ref org rec xmt] w fun e w' => e = .returned (.int .i64 8) ∧ Below w.heap.size w w' := by
  have hV := fun W => valid_yes l v m st po pr rd rp id ref org rec xmt W h
  have hA := fun W => asks_any l v m st po pr rd rp id ref org rec xmt W
  simp only [hm] at hA
  clear h
  go_enter Try.func35, Try.ntmps35
  go_wp2_with (first | (refine wpl_box (by rfl) 25 _ (by rfl) _ ([.int .i64 l, .int .i64 v, .int .i64 m, .int .i64 st, .int .i64 po, .int .i64 pr, .int .u32 rd, .int .u32 rp, .int .u32 id, .int .u64 ref, .int .u64 org, .int .u64 rec, .int .u64 xmt]) (by rfl) rfl ?_; intro w1 P1 s1 b1))
  obtain ⟨w2, hw2⟩ : ∃ w2, w2 = w1.alloc (.cells #[.func (.func 59) #[] #[], .int .i64 2, .func (.func 60) #[] #[], .int .i64 8] 97) := ⟨_, rfl⟩
  have S2 : Blk w2 w1.heap.size 97 chL := by rw [hw2]; exact Blk.new w1 _ _ _ rfl
  have b2 : Below w1.heap.size w1 w2 := by rw [hw2]; exact (Below.refl _ _).alloc (Nat.le_refl _) _
  have z2 : w1.heap.size < w2.heap.size := by rw [hw2]; simp
  rw [← hw2]
  have P2 := P1.below b2 s1
  have B2 := b1.trans (b2.mono b1.size)
  clear hw2 P1 b1 b2
  refine wp_loop_rounds 3 ?_
  rw [rounds_succ]
  go_wp2_with (first
    | (refine wpl_loadm (by rfl) 97 _ (by rfl) w1.heap.size 0 (by rfl) _ _ S2 [.func (.func 59) #[] #[], .int .i64 2] _ Try.underlying97 rfl _ sizeChk (by rfl) (by rfl) ?_)
    | (refine wpl_alloc (by rfl) 97 (by rfl) (.agg ([.nilFunc, .int .i64 0]).toArray) ([.nilFunc, .int .i64 0]) zeroChk rfl ?_; intro w3 J3 s3 b3)
    | (refine wpl_store (by rfl) 97 _ _ (by rfl) w2.heap.size (by rfl) _ (by rfl) [.func (.func 59) #[] #[], .int .i64 2] rfl 97 _ J3 (by rfl) _ sizeChk (by rfl) (by simp [Value.oneCell']) ?_; intro w4 J4 s4 g4)
    | (refine wpl_loadf (by rfl) 94 _ (by rfl) w2.heap.size 0 (by rfl) _ _ J4 _ rfl _ Try.underlying94 rfl ?_)
    | (refine wpl_load (by rfl) 25 _ (by rfl) w.heap.size (by rfl) 25 _ ((P2.below b3 (by omega)).but g4 (by omega)) _ Try.underlying25 rfl _ sizeNtp (by rfl) ?_))
  with_reducible refine (hV _).mono ?_
  rintro e' w5 ⟨rfl, bc⟩
  have Jc := J4.below bc J4.lt
  have Sc := ((S2.below b3 (by omega)).but g4 (by omega)).below bc (by omega)
  have Pc := ((P2.below b3 (by omega)).but g4 (by omega)).below bc (by omega)
  have Bc := ((B2.trans (b3.mono (by omega))).trans (g4.below (by omega) (by omega))).trans (bc.mono (by omega))
  have zc := bc.size
  clear S2 P2 B2 J3 J4 b3 g4 bc
  clear Jc
  go_wp2_with fail
  rw [rounds_succ]
  have S5 := Sc
  have P5 := Pc
  have B5 := Bc
  have z5 := zc
  clear Sc Pc Bc zc
  go_wp2_with (first
    | (refine wpl_loadm (by rfl) 97 _ (by rfl) w1.heap.size 2 (by rfl) _ _ S5 [.func (.func 60) #[] #[], .int .i64 8] _ Try.underlying97 rfl _ sizeChk (by rfl) (by rfl) ?_)
    | (refine wpl_alloc (by rfl) 97 (by rfl) (.agg ([.nilFunc, .int .i64 0]).toArray) ([.nilFunc, .int .i64 0]) zeroChk rfl ?_; intro w6 J6 s6 b6)
    | (refine wpl_store (by rfl) 97 _ _ (by rfl) w5.heap.size (by rfl) _ (by rfl) [.func (.func 60) #[] #[], .int .i64 8] rfl 97 _ J6 (by rfl) _ sizeChk (by rfl) (by simp [Value.oneCell']) ?_; intro w7 J7 s7 g7)
    | (refine wpl_loadf (by rfl) 94 _ (by rfl) w5.heap.size 0 (by rfl) _ _ J7 _ rfl _ Try.underlying94 rfl ?_)
    | (refine wpl_load (by rfl) 25 _ (by rfl) w.heap.size (by rfl) 25 _ ((P5.below b6 (by omega)).but g7 (by omega)) _ Try.underlying25 rfl _ sizeNtp (by rfl) ?_))
  with_reducible refine (hA _).mono ?_
  rintro e' w8 ⟨rfl, bc⟩
  have Jc := J7.below bc J7.lt
  have Sc := ((S5.below b6 (by omega)).but g7 (by omega)).below bc (by omega)
  have Pc := ((P5.below b6 (by omega)).but g7 (by omega)).below bc (by omega)
  have Bc := ((B5.trans (b6.mono (by omega))).trans (g7.below (by omega) (by omega))).trans (bc.mono (by omega))
  have zc := bc.size
  clear S5 P5 B5 J6 J7 b6 g7 bc
  go_wp2_with (first | (refine wpl_loadf (by rfl) 30 _ (by rfl) w5.heap.size 1 (by rfl) _ _ Jc _ rfl _ Try.underlying30 rfl ?_))
  go_ret
  exact ⟨rfl, Bc⟩
set_option maxHeartbeats 4000000 in
theorem checkRequest_ok (l v m st po pr rd rp id ref org rec xmt : Int) (w : World) (h : nchk l v m st po pr = 0) (hm : (m == 3) = true) : Calls Try.prog 35 #[ntp l v m st po pr rd rp id ref org rec xmt] w fun e w' => e = .returned (.int .i64 0) ∧ Below w.heap.size w w' := by
  have hV := fun W => valid_yes l v m st po pr rd rp id ref org rec xmt W h
  have hA := fun W => asks_any l v m st po pr rd rp id ref org rec xmt W
  simp only [hm] at hA
  clear h
  go_enter Try.func35, Try.ntmps35
  go_wp2_with (first | (refine wpl_box (by rfl) 25 _ (by rfl) _ ([.int .i64 l, .int .i64 v, .int .i64 m, .int .i64 st, .int .i64 po, .int .i64 pr, .int .u32 rd, .int .u32 rp, .int .u32 id, .int .u64 ref, .int .u64 org, .int .u64 rec, .int .u64 xmt]) (by rfl) rfl ?_; intro w1 P1 s1 b1))
  obtain ⟨w2, hw2⟩ : ∃ w2, w2 = w1.alloc (.cells #[.func (.func 59) #[] #[], .int .i64 2, .func (.func 60) #[] #[], .int .i64 8] 97) := ⟨_, rfl⟩
  have S2 : Blk w2 w1.heap.size 97 chL := by rw [hw2]; exact Blk.new w1 _ _ _ rfl
  have b2 : Below w1.heap.size w1 w2 := by rw [hw2]; exact (Below.refl _ _).alloc (Nat.le_refl _) _
  have z2 : w1.heap.size < w2.heap.size := by rw [hw2]; simp
  rw [← hw2]
  have P2 := P1.below b2 s1
  have B2 := b1.trans (b2.mono b1.size)
  clear hw2 P1 b1 b2
  refine wp_loop_rounds 3 ?_
  rw [rounds_succ]
  go_wp2_with (first
    | (refine wpl_loadm (by rfl) 97 _ (by rfl) w1.heap.size 0 (by rfl) _ _ S2 [.func (.func 59) #[] #[], .int .i64 2] _ Try.underlying97 rfl _ sizeChk (by rfl) (by rfl) ?_)
    | (refine wpl_alloc (by rfl) 97 (by rfl) (.agg ([.nilFunc, .int .i64 0]).toArray) ([.nilFunc, .int .i64 0]) zeroChk rfl ?_; intro w3 J3 s3 b3)
    | (refine wpl_store (by rfl) 97 _ _ (by rfl) w2.heap.size (by rfl) _ (by rfl) [.func (.func 59) #[] #[], .int .i64 2] rfl 97 _ J3 (by rfl) _ sizeChk (by rfl) (by simp [Value.oneCell']) ?_; intro w4 J4 s4 g4)
    | (refine wpl_loadf (by rfl) 94 _ (by rfl) w2.heap.size 0 (by rfl) _ _ J4 _ rfl _ Try.underlying94 rfl ?_)
    | (refine wpl_load (by rfl) 25 _ (by rfl) w.heap.size (by rfl) 25 _ ((P2.below b3 (by omega)).but g4 (by omega)) _ Try.underlying25 rfl _ sizeNtp (by rfl) ?_))
  with_reducible refine (hV _).mono ?_
  rintro e' w5 ⟨rfl, bc⟩
  have Jc := J4.below bc J4.lt
  have Sc := ((S2.below b3 (by omega)).but g4 (by omega)).below bc (by omega)
  have Pc := ((P2.below b3 (by omega)).but g4 (by omega)).below bc (by omega)
  have Bc := ((B2.trans (b3.mono (by omega))).trans (g4.below (by omega) (by omega))).trans (bc.mono (by omega))
  have zc := bc.size
  clear S2 P2 B2 J3 J4 b3 g4 bc
  clear Jc
  go_wp2_with fail
  rw [rounds_succ]
  have S5 := Sc
  have P5 := Pc
  have B5 := Bc
  have z5 := zc
  clear Sc Pc Bc zc
  go_wp2_with (first
    | (refine wpl_loadm (by rfl) 97 _ (by rfl) w1.heap.size 2 (by rfl) _ _ S5 [.func (.func 60) #[] #[], .int .i64 8] _ Try.underlying97 rfl _ sizeChk (by rfl) (by rfl) ?_)
    | (refine wpl_alloc (by rfl) 97 (by rfl) (.agg ([.nilFunc, .int .i64 0]).toArray) ([.nilFunc, .int .i64 0]) zeroChk rfl ?_; intro w6 J6 s6 b6)
    | (refine wpl_store (by rfl) 97 _ _ (by rfl) w5.heap.size (by rfl) _ (by rfl) [.func (.func 60) #[] #[], .int .i64 8] rfl 97 _ J6 (by rfl) _ sizeChk (by rfl) (by simp [Value.oneCell']) ?_; intro w7 J7 s7 g7)
    | (refine wpl_loadf (by rfl) 94 _ (by rfl) w5.heap.size 0 (by rfl) _ _ J7 _ rfl _ Try.underlying94 rfl ?_)
    | (refine wpl_load (by rfl) 25 _ (by rfl) w.heap.size (by rfl) 25 _ ((P5.below b6 (by omega)).but g7 (by omega)) _ Try.underlying25 rfl _ sizeNtp (by rfl) ?_))
  with_reducible refine (hA _).mono ?_
  rintro e' w8 ⟨rfl, bc⟩
  have Jc := J7.below bc J7.lt
  have Sc := ((S5.below b6 (by omega)).but g7 (by omega)).below bc (by omega)
  have Pc := ((P5.below b6 (by omega)).but g7 (by omega)).below bc (by omega)
  have Bc := ((B5.trans (b6.mono (by omega))).trans (g7.below (by omega) (by omega))).trans (bc.mono (by omega))
  have zc := bc.size
  clear S5 P5 B5 J6 J7 b6 g7 bc
  go_wp2_with fail
  rw [rounds_succ]
  go_wp2_with fail
  go_ret
  exact ⟨rfl, Bc⟩
theorem checkRequest_any (l v m st po pr rd rp id ref org rec xmt : Int) (w : World) : Calls Try.prog 35 #[ntp l v m st po pr rd rp id ref org rec xmt] w fun e w' => e = .returned (.int .i64 (rqE (nchk l v m st po pr) m)) ∧ Below w.heap.size w w' := by
  rcases nchk_03 l v m st po pr with h | h
  · by_cases hm : m = 3
    · have hE : rqE (nchk l v m st po pr) m = 0 := by unfold rqE; rw [if_pos h, if_pos hm]
      rw [hE]
      exact checkRequest_ok l v m st po pr rd rp id ref org rec xmt w h (by simpa using hm)
    · have hE : rqE (nchk l v m st po pr) m = 8 := by unfold rqE; rw [if_pos h, if_neg hm]
      rw [hE]
      exact checkRequest_kind l v m st po pr rd rp id ref org rec xmt w h (by simpa using hm)
  · have hE : rqE (nchk l v m st po pr) m = 2 := by unfold rqE; rw [if_neg (by omega)]
    rw [hE]
    exact checkRequest_bad l v m st po pr rd rp id ref org rec xmt w h
end Go.Proofs.Ytjclifjipphnkaa
