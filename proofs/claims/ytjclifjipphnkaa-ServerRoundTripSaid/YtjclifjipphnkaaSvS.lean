/- ServerRoundTrip (P30.3, the layer's theorem): the walk, an interval that is no interval. -/
import Derived.Test.YtjclifjipphnkaaSvR
import Derived.Test.YtjclifjipphnkaaSvO
import Derived.Test.YtjclifjipphnkaaEx4
import Derived.Test.YtjclifjipphnkaaDet
namespace Go.Proofs.Ytjclifjipphnkaa
open Go.ChangeShapes Go.WideShapes Go.ChangeAt Go.RowKit Go.Joins
set_option linter.unusedSimpArgs false
set_option linter.unusedVariables false
set_option maxRecDepth 100000
set_option maxHeartbeats 4000000 in
theorem tripLaw_no (a b : Int) (A1 A2 : Option Addr) (n1 c1 n2 c2 : Nat) (w : World) (h : ivB a b = false) :
    Calls Try.prog 7 #[.agg (ivL a b).toArray, .slice A1 n1 c1, .slice A2 n2 c2] w fun e w' => e = .returned (.bool true) ∧ Below w.heap.size w w' := by
  have hq : decide (b < a) = true ∨ (decide (b < a) = false ∧ decide (a < -8000000000000000000) = true) ∨ (decide (b < a) = false ∧ decide (a < -8000000000000000000) = false ∧ decide (8000000000000000000 < b) = true) := by
    unfold ivB at h
    simp at h ⊢
    omega
  have hF := fun W => field_no a b W h
  clear h
  rcases hq with h1 | ⟨h1, h2⟩ | ⟨h1, h2, h3⟩
  all_goals
    go_enter Try.func7, Try.ntmps7
    go_wp2_with (first
      | (refine wpl_box (by rfl) 46 _ (by rfl) _ (ivL a b) (by rfl) rfl ?_; intro w1 P1 s1 b1)
      | (refine wpl_load (by rfl) 46 _ (by rfl) w.heap.size (by rfl) 46 _ P1 _ Try.underlying46 rfl _ sizeIv (by rfl) ?_))
    with_reducible refine (hF w1).mono ?_
    rintro e w2 ⟨rfl, b2⟩
    have P2 := P1.below b2 (by omega)
    have B2 := b1.trans (b2.mono b1.size)
    have z2 := b2.size
    clear P1 b1 b2 hF
    go_wp2_with (first
      | (refine wpl_alloc (by rfl) 50 (by rfl) (.agg (exL 0 none 0 0).toArray) (exL 0 none 0 0) zeroExt rfl ?_; intro w3 J3 s3 b3)
      | (refine wpl_store (by rfl) 50 _ _ (by rfl) w2.heap.size (by rfl) _ (by rfl) (exL 0 none 0 0) rfl 50 _ J3 (by rfl) _ sizeExt (by rfl) (by simp [Value.oneCell']) ?_; intro w4 J4 s4 g4; (have P4 := (P2.below b3 (by omega)).but g4 (by omega)))
      | (refine wpl_loadf (by rfl) 3 _ (by rfl) w.heap.size 0 (by rfl) _ _ P4 _ rfl _ Try.underlying3 rfl ?_) | (refine wpl_loadf (by rfl) 3 _ (by rfl) w.heap.size 1 (by rfl) _ _ P4 _ rfl _ Try.underlying3 rfl ?_)
      | (refine wpl_load (by rfl) 50 _ (by rfl) w2.heap.size (by rfl) 50 _ J4 _ Try.underlying50 rfl _ sizeExt (by rfl) ?_))
    have B4 := (B2.trans (b3.mono (by omega))).trans (g4.below (by omega) (by omega))
    with_reducible refine (same_yes 0 none none 0 0 0 0 0 0 0 [] w4 rfl Bs.nil Bs.nil (by omega) (by omega) (by omega)).mono ?_
    rintro e w5 ⟨rfl, b5⟩
    have B5 := B4.trans (b5.mono B4.size)
    go_wp2_with fail
    with_reducible refine (awake_any _).mono ?_
    rintro e wa ⟨rfl, ba⟩
    have Ba := (B5).trans (ba.mono (B5).size)
    go_wp2
    go_ret
    exact ⟨rfl, Ba⟩
end Go.Proofs.Ytjclifjipphnkaa
