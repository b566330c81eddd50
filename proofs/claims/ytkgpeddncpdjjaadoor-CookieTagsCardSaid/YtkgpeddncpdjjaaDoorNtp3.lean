/- What ntpmsg.Code, Kiss and Synced compute, and the law's own comparison of bytes; stamp of small readings of the reference. -/
import Derived.Test.YtkgpeddncpdjjaaDoorNtp2
import Derived.Test.YtkgpeddncpdjjaaDoorStr
namespace Go.Proofs.YtkgpeddncpdjjaaDoor
open Go.RowKit
set_option linter.unusedSimpArgs false
set_option linter.unusedVariables false
set_option maxRecDepth 100000
theorem numB_le_pow {L : List Int} (h : Byt L) : numB L < 256 ^ L.length := by
  have aux : ∀ k : Nat, k ≤ L.length → numB (L.take k) < 256 ^ k := by
    intro k
    induction k with
    | zero => intro _; simp [numB]
    | succ k ih =>
      intro hk
      have h1 := ih (by omega)
      have h2 := h.at k
      have h3 := (numB_range (L.take k)).1
      rw [numB_succ L k (by omega), Int.pow_succ]
      have : stepB (numB (L.take k)) (atB L k) ≤ numB (L.take k) * 256 + atB L k := by unfold stepB; omega
      omega
  have := aux L.length (Nat.le_refl _)
  rwa [List.take_length] at this
end Go.Proofs.YtkgpeddncpdjjaaDoor
