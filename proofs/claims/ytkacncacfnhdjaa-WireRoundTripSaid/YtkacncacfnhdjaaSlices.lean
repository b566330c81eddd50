/- What slices.Equal and slices.Clone compute on byte slices. -/
import Derived.Test.YtkacncacfnhdjaaMem
import Derived.Lib.SliceRun
namespace Go.Proofs.Ytkacncacfnhdjaa
open Go.RowKit
set_option linter.unusedSimpArgs false
set_option linter.unusedVariables false
set_option maxRecDepth 100000
theorem ext_take {l m : List Int} (k : Nat) (h : l.take k = m.take k) (hl : l.length ≤ k) (hm : m.length ≤ k) : l = m := by
  rw [List.take_of_length_le hl, List.take_of_length_le hm] at h; exact h
theorem take_eq_succ {l m : List Int} {k : Nat} (h : l.take k = m.take k) (hl : k < l.length) (hm : k < m.length) (he : atB l k = atB m k) : l.take (k + 1) = m.take (k + 1) := by
  rw [List.take_add_one, List.take_add_one, h]
  congr 2
  rw [List.getElem?_eq_getElem hl, List.getElem?_eq_getElem hm]
  unfold atB at he
  rw [List.getD_eq_getElem?_getD, List.getD_eq_getElem?_getD, List.getElem?_eq_getElem hl, List.getElem?_eq_getElem hm] at he
  simpa using he
theorem ne_of_at {l m : List Int} {k : Nat} (h : atB l k ≠ atB m k) : l ≠ m := fun e => h (by rw [e])
def eqB (l m : List Int) : Bool := decide (l = m)
theorem eqB_self (l : List Int) : eqB l l = true := by simp [eqB]
set_option maxHeartbeats 2000000 in
theorem equal_any (A B : Option Addr) (n m c d lo hi lo' hi' : Nat) (l l' : List Int) (w : World) (hn : l.length = n) (hm : l'.length = m) (hA : Bs w lo hi A l) (hB : Bs w lo' hi' B l') (h1 : hi ≤ w.heap.size) (h2 : hi' ≤ w.heap.size) (hl : n ≤ 9223372036854775807) (hl' : m ≤ 9223372036854775807) :
    Calls Try.prog 16 #[.slice A n c, .slice B m d] w fun e w' => e = .returned (.bool (eqB l l')) ∧ Below w.heap.size w w' := by
  subst hn hm
  by_cases hlen : l.length = l'.length
  · have hne : (((l.length : Int)) != l'.length) = false := by simp [hlen]
    go_enter Try.func16, Try.ntmps16
    go_wp2
    go_loopw [13] (fun i wr => ∃ k : Nat, k ≤ l.length ∧ i = .int .i64 k ∧ l.take k = l'.take k ∧ Below w.heap.size w wr) (fun i _ => l.length - (intOf i).toNat)
    case atStart => exact ⟨0, by omega, rfl, by simp, Below.refl _ _⟩
    case round =>
      obtain ⟨k, hk, rfl, hT, hb⟩ := hrel
      by_cases hlt : k < l.length
      · obtain ⟨b, o, rfl, _, hb1, hc⟩ := (hA.below hb h1).at (by omega)
        obtain ⟨b', o', rfl, _, hb2, hc'⟩ := (hB.below hb h2).at (by omega)
        have hck := hc k hlt
        have hck' := hc' k (by omega)
        have hi0 : (0 : Int) ≤ k := by omega
        have hi1 : (k : Int) < l.length := by omega
        have hi2 : (k : Int) < l'.length := by omega
        clear hc hc' hne
        go_wp2_with fail
        go_region_held3 (fun w' => w'.cell? ⟨b, o + k, none⟩ = some (.int .u8 (atB l k)) ∧ w'.cell? ⟨b', o' + k, none⟩ = some (.int .u8 (atB l' k)) ∧ Below w.heap.size w w') ((go_split_ands; (repeat' apply And.intro) <;> first | assumption | (refine kept_cell hb ?_ ?_ <;> first | assumption | omega | (dsimp only; omega) | (simp <;> omega) | (simp [go_sem, *]; done)) | (refine kept_frozen hb ?_ ?_ <;> first | assumption | omega | (intro o; simp [go_sem, *]; done) | (dsimp only; omega) | (simp <;> omega)) | (intro o; simp [go_sem, *]; done) | (simp [go_sem, *]; done) | (simp <;> omega) | (have hq := hb.size; omega) | (have hq := hb.size; simp at hq; omega) | ((repeat (first | assumption | exact Below.refl _ _ | refine Below.drew ?_ | refine below_drewN ?_ _ | refine Below.setCell ?_ (by first | omega | (simp; done) | (simp <;> omega)) _ | refine Below.alloc ?_ (by first | omega | (simp; done) | (simp <;> omega)) _ | refine Below.trans ?_ (Below.mono (by assumption) (by first | omega | (simp; done) | (simp <;> omega))))); done))) (fail)
        go_split_ands
        go_wp2
        · have hq : (atB l k != atB l' k) = true := by assumption
          have hR : Hid (eqB l l' = false) := decide_eq_false (ne_of_at (by simpa using hq))
          go_ret
          exact ⟨by rw [hR.out]; rfl, by assumption⟩
        · have hq : (atB l k != atB l' k) = false := by assumption
          exact ⟨⟨k + 1, by omega, by go_num, take_eq_succ hT hlt (by omega) (by simpa using hq), by assumption⟩, by simp [intOf]; omega⟩
      · obtain rfl : k = l.length := by omega
        go_wp2
        go_ret
        exact ⟨ret_bool (by rw [ext_take _ hT (Nat.le_refl _) (by omega), eqB_self]), hb⟩
  · have hne : (((l.length : Int)) != l'.length) = true := by simp; omega
    have hR : Hid (eqB l l' = false) := decide_eq_false (fun h => hlen (by rw [h]))
    go_enter Try.func16, Try.ntmps16
    go_wp2
    go_ret
    exact ⟨by rw [hR.out]; rfl, Below.refl _ _⟩
end Go.Proofs.Ytkacncacfnhdjaa
