/- Associations: the sum of the counts; the calls of a law, opened. -/
import Derived.Test.YtickoncgnjgciaaAsK
import Derived.Test.YtickoncgnjgciaaHeld
import Derived.Test.YtickoncgnjgciaaKp
import Derived.Test.YtickoncgnjgciaaSls
namespace Go.Proofs.Ytickoncgnjgciaa
open Go.ChangeShapes Go.WideShapes Go.ChangeAt Go.RowKit Go.Joins
set_option linter.unusedSimpArgs false
set_option linter.unusedVariables false
def sm (l : List Int) : Nat → Int
  | 0 => 0
  | k + 1 => sm l k + l.getD k 0
theorem sm_rng {l : List Int} (hb : ∀ k, 0 ≤ l.getD k 0 ∧ l.getD k 0 ≤ 1000000) : ∀ k : Nat, 0 ≤ sm l k ∧ sm l k ≤ 1000000 * k
  | 0 => by simp [sm]
  | k + 1 => by have := sm_rng hb k; have := hb k; simp only [sm]; omega
theorem sum_any (b cp : Nat) (l : List Int) (w : World) (hr : ∀ k, k < 8 → w.cell? ⟨b, k, none⟩ = some (.int .i64 (l.getD k 0))) (hb : ∀ k, 0 ≤ l.getD k 0 ∧ l.getD k 0 ≤ 1000000) :
    Calls Try.prog 20 #[.slice (some ⟨b, 0, none⟩) 8 cp] w fun e w' => e = .returned (.int .i64 (sm l 8)) ∧ w = w' := by
  go_enter Try.func20, Try.ntmps20
  go_wp2
  go_loop [3, 4] (fun n i => ∃ k : Nat, k ≤ 8 ∧ i = .int .i64 k ∧ n = .int .i64 (sm l k)) (fun _ i => 8 - (intOf i).toNat)
  case atStart => exact ⟨0, by omega, rfl, rfl⟩
  case round =>
    obtain ⟨k, hk, rfl, rfl⟩ := hrel
    have hs := sm_rng hb k
    by_cases hlt : k < 8
    · have hc := hr k hlt
      have hv := hb k
      have hv1 := hv.1
      have hv2 := hv.2
      have hs1 := hs.1
      have hs2 : sm l k ≤ 8000000 := by omega
      have hi0 : (0 : Int) ≤ k := by omega
      have hi1 : (k : Int) < 8 := by omega
      have hS : Hid (sm l (k + 1) = sm l k + l.getD k 0) := rfl
      clear hs hv hb hr
      generalize l.getD k 0 = x at hc hv1 hv2 hS
      go_wp2
      go_round
      case rel => exact ⟨k + 1, by omega, by go_num, by rw [hS.out]⟩
      case measure => simp [intOf]; omega
    · obtain rfl : k = 8 := by omega
      go_wp2
      go_ret
      exact ⟨rfl, rfl⟩
end Go.Proofs.Ytickoncgnjgciaa
