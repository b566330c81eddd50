/- Associations: what Receive computes, in one sentence; the reference's Check, Synced, Kiss, heard. -/
import Derived.Test.YtickoncgnjgciaaAsE
namespace Go.Proofs.Ytickoncgnjgciaa
open Go.RowKit
set_option linter.unusedSimpArgs false
set_option linter.unusedVariables false
def kK (R A : Int) : Int := if R = 9 then A else R
def kCo (R : Int) (s : ByteArray) : ByteArray := if R = 9 then s else ⟨#[]⟩
def kQ (R A x : Int) : Int := if R = 9 then (if A = 7 then x else 0) else 0
def kPd (R : Int) (pd : Bool) : Bool := if R = 9 then false else pd
def kLx (R x lx : Int) : Int := if R = 9 then x else lx
abbrev rcL (R A : Int) (s : ByteArray) (t1 r x now : Int) : List Value := hdL (kK R A) (kCo R s) (kQ R A t1) (kQ R A r) (kQ R A x) (kQ R A now)
theorem ac_k (st l id rec xmt now : Int) : acK st l id rec xmt now = 4 ∨ acK st l id rec xmt now = 5 ∨ acK st l id rec xmt now = 6 ∨ acK st l id rec xmt now = 7 := by
  rcases ac_cases st l id rec xmt now with ⟨_, h⟩ | ⟨_, _, h⟩ | ⟨_, _, _, h⟩ | ⟨_, _, _, _, h⟩ | ⟨_, _, _, _, _, h⟩ | ⟨_, _, _, _, _, h⟩ <;> omega
set_option maxRecDepth 100000 in
theorem receive_any (g : Nat) (ver t1 nc : Int) (pd : Bool) (lx c0 c1 c2 c3 c4 c5 c6 c7 now l v m st po pr rd rp id ref org rec xmt R A : Int) (w : World) (H : Blk w g 57 (asL ver t1 nc pd lx c0 c1 c2 c3 c4 c5 c6 c7)) (hI : nc = 0 → t1 = 0) (hid : 0 ≤ id ∧ id ≤ 4294967295) (hc0 : CB c0) (hc1 : CB c1) (hc2 : CB c2) (hc3 : CB c3) (hc4 : CB c4) (hc5 : CB c5) (hc6 : CB c6) (hc7 : CB c7)
    (hR : rfK (nchk l v m st po pr) m now nc t1 pd org xmt lx = R) (hA : acK st l id rec xmt now = A) :
    Calls Try.prog 14 #[.pointer (some ⟨g, 0, none⟩), ntp l v m st po pr rd rp id ref org rec xmt, .int .i64 now] w fun e w' => e = .returned (.agg (rcL R A (ksS st id) t1 (insV rec now) (insV xmt now) now).toArray) ∧ Blk w' g 57 (asL ver t1 nc (kPd R pd) (kLx R xmt lx) (incK (kK R A) 0 c0) (incK (kK R A) 1 c1) (incK (kK R A) 2 c2) (incK (kK R A) 3 c3) (incK (kK R A) 4 c4) (incK (kK R A) 5 c5) (incK (kK R A) 6 c6) (incK (kK R A) 7 c7)) ∧ But g w w' := by
  rcases refuse_any g ver t1 nc pd lx c0 c1 c2 c3 c4 c5 c6 c7 now l v m st po pr rd rp id ref org rec xmt w H hI with ⟨h9, rfl, hb, ho, _⟩ | ⟨k, hk, hRk, _⟩
  · obtain ⟨_, _, hn, _⟩ := good_parts hI hb
    have hF : ∀ W, Blk W g 57 (asL ver t1 nc true lx c0 c1 c2 c3 c4 c5 c6 c7) → Calls Try.prog 27 #[.pointer (some ⟨g, 0, none⟩), ntp l v m st po pr rd rp id ref org rec xmt, .int .i64 now] W fun e w' => e = .returned (.tuple #[.agg (hdL 0 ⟨#[]⟩ 0 0 0 0).toArray, .bool false]) ∧ Below W.heap.size W w' := fun W HW => by
      rcases refuse_any g ver t1 nc true lx c0 c1 c2 c3 c4 c5 c6 c7 now l v m st po pr rd rp id ref org rec xmt W HW hI with ⟨_, _, _, _, h⟩ | ⟨k, hk, hRk, _⟩
      · exact h
      · omega
    have hAC := fun W HW => accept_any g ver t1 nc true lx c0 c1 c2 c3 c4 c5 c6 c7 now l v m st po pr rd rp id ref org rec xmt W HW hid hn
    obtain rfl : R = 9 := by omega
    rcases ac_k st l id rec xmt now with hk | hk | hk | hk
    · obtain rfl : A = 4 := by omega
      simp only [acH, hk] at hAC
      exact rec_acc4 g ver t1 nc lx c0 c1 c2 c3 c4 c5 c6 c7 now l v m st po pr rd rp id ref org rec xmt _ _ _ _ _ w H hc4 hF hAC
    · obtain rfl : A = 5 := by omega
      simp only [acH, hk] at hAC
      exact rec_acc5 g ver t1 nc lx c0 c1 c2 c3 c4 c5 c6 c7 now l v m st po pr rd rp id ref org rec xmt _ _ _ _ _ w H hc5 hF hAC
    · obtain rfl : A = 6 := by omega
      simp only [acH, hk] at hAC
      exact rec_acc6 g ver t1 nc lx c0 c1 c2 c3 c4 c5 c6 c7 now l v m st po pr rd rp id ref org rec xmt _ _ _ _ _ w H hc6 hF hAC
    · obtain rfl : A = 7 := by omega
      simp only [acH, hk] at hAC
      exact rec_acc7 g ver t1 nc lx c0 c1 c2 c3 c4 c5 c6 c7 now l v m st po pr rd rp id ref org rec xmt _ _ _ _ _ w H hc7 hF hAC
  · have hF : ∀ W, Blk W g 57 (asL ver t1 nc pd lx c0 c1 c2 c3 c4 c5 c6 c7) → Calls Try.prog 27 #[.pointer (some ⟨g, 0, none⟩), ntp l v m st po pr rd rp id ref org rec xmt, .int .i64 now] W fun e w' => e = .returned (.tuple #[.agg (hdL k ⟨#[]⟩ 0 0 0 0).toArray, .bool true]) ∧ Below W.heap.size W w' := fun W HW => by
      rcases refuse_any g ver t1 nc pd lx c0 c1 c2 c3 c4 c5 c6 c7 now l v m st po pr rd rp id ref org rec xmt W HW hI with ⟨h9, _⟩ | ⟨k', hk', hRk', h⟩
      · omega
      · obtain rfl : k = k' := by omega
        exact h
    obtain rfl : R = k := by omega
    rcases hk with rfl | rfl | rfl | rfl
    · exact rec_ref0 g ver t1 nc pd lx c0 c1 c2 c3 c4 c5 c6 c7 now l v m st po pr rd rp id ref org rec xmt w H hc0 hF
    · exact rec_ref1 g ver t1 nc pd lx c0 c1 c2 c3 c4 c5 c6 c7 now l v m st po pr rd rp id ref org rec xmt w H hc1 hF
    · exact rec_ref2 g ver t1 nc pd lx c0 c1 c2 c3 c4 c5 c6 c7 now l v m st po pr rd rp id ref org rec xmt w H hc2 hF
    · exact rec_ref3 g ver t1 nc pd lx c0 c1 c2 c3 c4 c5 c6 c7 now l v m st po pr rd rp id ref org rec xmt w H hc3 hF
set_option maxHeartbeats 1000000 in
theorem rsynced_any (l v m st po pr rd rp id ref org rec xmt : Int) (w : World) :
    Calls Try.prog 38 #[ntp l v m st po pr rd rp id ref org rec xmt] w fun e w' => e = .returned (.bool (syncB l st)) ∧ Below w.heap.size w w' := by
  have HD : Hid (syncB l st = decide (l ≠ 3 ∧ 1 ≤ st ∧ st ≤ 15)) := rfl
  rw [HD.out]
  by_cases h0 : l = 3
  · have h1 : (l != 3) = false := by simpa using h0
    have H0 := Lib.hid h0
    clear h0
    go_enter Try.func38, Try.ntmps38
    go_wp2_with (first | (refine wpl_box (by rfl) 31 _ (by rfl) _ ([.int .i64 l, .int .i64 v, .int .i64 m, .int .i64 st, .int .i64 po, .int .i64 pr, .int .u32 rd, .int .u32 rp, .int .u32 id, .int .u64 ref, .int .u64 org, .int .u64 rec, .int .u64 xmt]) (by rfl) rfl ?_; intro w1 P1 s1 b1) | (refine wpl_loadf (by rfl) 3 _ (by rfl) w.heap.size 0 (by rfl) _ _ P1 _ rfl _ Try.underlying3 rfl ?_) | (refine wpl_loadf (by rfl) 3 _ (by rfl) w.heap.size 3 (by rfl) _ _ P1 _ rfl _ Try.underlying3 rfl ?_))
    go_ret
    exact ⟨ret_bool (by simp [H0.out]), b1⟩
  · have h1 : (l != 3) = true := by simpa using h0
    have H0 := Lib.hid h0
    clear h0
    cases h2 : decide (1 ≤ st) <;> cases h3 : decide (st ≤ 15)
    all_goals
      have H2 := Lib.hid h2
      have H3 := Lib.hid h3
      go_enter Try.func38, Try.ntmps38
      go_wp2_with (first | (refine wpl_box (by rfl) 31 _ (by rfl) _ ([.int .i64 l, .int .i64 v, .int .i64 m, .int .i64 st, .int .i64 po, .int .i64 pr, .int .u32 rd, .int .u32 rp, .int .u32 id, .int .u64 ref, .int .u64 org, .int .u64 rec, .int .u64 xmt]) (by rfl) rfl ?_; intro w1 P1 s1 b1) | (refine wpl_loadf (by rfl) 3 _ (by rfl) w.heap.size 0 (by rfl) _ _ P1 _ rfl _ Try.underlying3 rfl ?_) | (refine wpl_loadf (by rfl) 3 _ (by rfl) w.heap.size 3 (by rfl) _ _ P1 _ rfl _ Try.underlying3 rfl ?_))
      go_ret
      exact ⟨ret_bool (by have := H2.out; have := H3.out; simp_all [H0.out]), b1⟩
end Go.Proofs.Ytickoncgnjgciaa
