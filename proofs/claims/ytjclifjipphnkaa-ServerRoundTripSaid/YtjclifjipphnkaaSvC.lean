/- Both replies in one sentence. -/
import Derived.Test.YtjclifjipphnkaaSvB
namespace Go.Proofs.Ytjclifjipphnkaa
open Go.RowKit
set_option linter.unusedSimpArgs false
set_option linter.unusedVariables false
set_option maxRecDepth 100000
/-- both replies in one sentence: a value and an error that are the same -/
theorem reply_both (l v m st po pr rd rp id ref org rec xmt tr tx tf s d p r lp pc : Int) : ∃ (x0 x1 x2 x3 x4 x5 x6 x7 x8 x9 x10 x11 x12 k : Int),
    (∀ w : World, Calls Try.prog 9 #[ntp l v m st po pr rd rp id ref org rec xmt, .int .u64 tr, .int .u64 tx, .int .u64 tf, root s d p r, .int .i64 lp, .int .i64 pc] w fun e w' => e = .returned (.tuple #[ntp x0 x1 x2 x3 x4 x5 x6 x7 x8 x9 x10 x11 x12, .int .i64 k]) ∧ Below w.heap.size w w') ∧
    (∀ w : World, Calls Try.prog 10 #[ntp l v m st po pr rd rp id ref org rec xmt, .int .u64 tr, .int .u64 tx, .int .u64 tf, root s d p r, .int .i64 lp, .int .i64 pc] w fun e w' => e = .returned (.tuple #[ntp x0 x1 x2 x3 x4 x5 x6 x7 x8 x9 x10 x11 x12, .int .i64 k]) ∧ Below w.heap.size w w') := by
  rcases nchk_03 l v m st po pr with hk | hk
  · cases hg : rgB lp pc s d p with
    | false =>
      have hE : rpE (nchk l v m st po pr) m s d p lp pc = 2 := by unfold rpE; rw [if_neg (by rw [hg]; simp)]
      refine ⟨0, 0, 0, 0, 0, 0, 0, 0, 0, 0, 0, 0, 0, 2, fun w => ?_, fun w => rreply_bad l v m st po pr rd rp id ref org rec xmt tr tx tf s d p r lp pc w (.inr hg)⟩
      have := reply_err l v m st po pr rd rp id ref org rec xmt tr tx tf s d p r lp pc w (by omega)
      rwa [hE] at this
    | true =>
      by_cases hm : m = 3
      · have hE : rpE (nchk l v m st po pr) m s d p lp pc = 0 := by unfold rpE rqE; rw [if_pos hg, if_pos hk, if_pos hm]
        have hm' : (m != 3) = false := by simpa using hm
        have hf03 : fieldsErr s d p = 0 ∨ fieldsErr s d p = 3 := by
          unfold fieldsErr
          split
          · exact shortErr_03 p
          · exact .inr rfl
        rcases hf03 with hf | hf
        · exact ⟨_, _, _, _, _, _, _, _, _, _, _, _, _, _, fun w => reply_ok l v m st po pr rd rp id ref org rec xmt tr tx tf s d p r lp pc w hE hf, fun w => rreply_ok l v m st po pr rd rp id ref org rec xmt tr tx tf s d p r lp pc w hk hg hm' hf⟩
        · exact ⟨_, _, _, _, _, _, _, _, _, _, _, _, _, _, fun w => reply_fe l v m st po pr rd rp id ref org rec xmt tr tx tf s d p r lp pc w hE hf, fun w => rreply_fe l v m st po pr rd rp id ref org rec xmt tr tx tf s d p r lp pc w hk hg hm' hf⟩
      · have hE : rpE (nchk l v m st po pr) m s d p lp pc = 8 := by unfold rpE rqE; rw [if_pos hg, if_pos hk, if_neg hm]
        refine ⟨0, 0, 0, 0, 0, 0, 0, 0, 0, 0, 0, 0, 0, 8, fun w => ?_, fun w => rreply_kind l v m st po pr rd rp id ref org rec xmt tr tx tf s d p r lp pc w hk hg (by simpa using hm)⟩
        have := reply_err l v m st po pr rd rp id ref org rec xmt tr tx tf s d p r lp pc w (by omega)
        rwa [hE] at this
  · have hE : rpE (nchk l v m st po pr) m s d p lp pc = 2 := by unfold rpE rqE; rw [hk]; split <;> simp
    refine ⟨0, 0, 0, 0, 0, 0, 0, 0, 0, 0, 0, 0, 0, 2, fun w => ?_, fun w => rreply_bad l v m st po pr rd rp id ref org rec xmt tr tx tf s d p r lp pc w (.inl hk)⟩
    have := reply_err l v m st po pr rd rp id ref org rec xmt tr tx tf s d p r lp pc w (by omega)
    rwa [hE] at this
end Go.Proofs.Ytjclifjipphnkaa
