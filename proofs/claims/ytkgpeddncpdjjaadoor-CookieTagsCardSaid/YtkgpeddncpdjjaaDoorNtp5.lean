/- What ntpmsg.Decode answers at a bad header, and what the reference's Decode computes. -/
import Derived.Test.YtkgpeddncpdjjaaDoorNtp4
namespace Go.Proofs.YtkgpeddncpdjjaaDoor
open Go.RowKit
set_option linter.unusedSimpArgs false
set_option linter.unusedVariables false
set_option maxRecDepth 100000
theorem take_cutN (l : List Int) (a k : Nat) (h : a + k < l.length) : (l.drop a).take (k + 1) = (l.drop a).take k ++ [atB l (a + k)] := by
  rw [take_succ' _ k (by rw [List.length_drop]; omega)]
  congr 2
  simp [atB, List.getD_eq_getElem?_getD]
theorem fB_succ (l : List Int) (a k : Nat) (h : a + k < l.length) : fB l a (k + 1) = stepB (fB l a k) (atB l (a + k)) := by
  unfold fB
  rw [take_cutN l a k h]
  unfold numB
  rw [List.foldl_append]; rfl
theorem fB_zero (l : List Int) (a : Nat) : fB l a 0 = 0 := rfl
theorem fB_one {l : List Int} (hb : Byt l) (a : Nat) (h : a < l.length) : fB l a 1 = atB l a := by
  rw [fB_succ l a 0 (by omega), fB_zero]
  have := hb.at a
  unfold stepB; simp; omega
def sgnB (x : Int) : Int := if 127 < x then x - 256 else x
theorem iB_one {l : List Int} (hb : Byt l) (a : Nat) (h : a < l.length) : iB l a 1 = sgnB (atB l a) := by
  have h1 := fB_one hb a h
  have hl : ((l.drop a).take 1).length = 1 := by rw [List.length_take, List.length_drop]; omega
  unfold fB at h1
  unfold iB intB sgnB
  rw [hl, h1]
  have := hb.at a
  by_cases hx : 127 < atB l a
  · rw [if_pos hx, if_neg (by omega), if_neg (by omega)]; rfl
  · rw [if_neg hx, if_neg (by omega), if_pos (by omega)]
end Go.Proofs.YtkgpeddncpdjjaaDoor
