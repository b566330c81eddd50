/- What slices.Equal and slices.Clone compute on byte slices. -/
import Derived.Test.YtjclifjipphnkaaMem
import Derived.Lib.SliceRun
namespace Go.Proofs.Ytjclifjipphnkaa
open Go.RowKit
set_option linter.unusedSimpArgs false
set_option linter.unusedVariables false
set_option maxRecDepth 100000
theorem ext_take {l m : List Int} (k : Nat) (h : l.take k = m.take k) (hl : l.length ≤ k) (hm : m.length ≤ k) : l = m := by
  rw [List.take_of_length_le hl, List.take_of_length_le hm] at h; exact h
theorem take_eq_succ {l m : List Int} {k : Nat} (h : l.take k = m.take k) (hl : k < l.length) (hm : k < m.length) (he : atB l k = atB m k) : l.take (k + 1) = m.take (k + 1) := by
  rw [List.take_add_one, List.take_add_one, h]
  congr 2
  rw [List.getElem?_eq_getElem hl, List.getElem?_eq_getElem hm]
  unfold atB at he
  rw [List.getD_eq_getElem?_getD, List.getD_eq_getElem?_getD, List.getElem?_eq_getElem hl, List.getElem?_eq_getElem hm] at he
  simpa using he
theorem ne_of_at {l m : List Int} {k : Nat} (h : atB l k ≠ atB m k) : l ≠ m := fun e => h (by rw [e])
def eqB (l m : List Int) : Bool := decide (l = m)
theorem eqB_self (l : List Int) : eqB l l = true := by simp [eqB]
set_option maxHeartbeats 2000000 in
theorem equal_any (A B : Option Addr) (n m c d lo hi lo' hi' : Nat) (l l' : List Int) (w : World) (hn : l.length = n) (hm : l'.length = m) (hA : Bs w lo hi A l) (hB : Bs w lo' hi' B l') (h1 : hi ≤ w.heap.size) (h2 : hi' ≤ w.heap.size) (hl : n ≤ 9223372036854775807) (hl' : m ≤ 9223372036854775807) :
    Calls Try.prog 32 #[.slice A n c, .slice B m d] w fun e w' => e = .returned (.bool (eqB l l')) ∧ Below w.heap.size w w' := by
  subst hn hm
  by_cases hlen : l.length = l'.length
  · have hne : (((l.length : Int)) != l'.length) = false := by simp [hlen]
    go_enter Try.func32, Try.ntmps32
    go_wp2
    go_loopw [13] (fun i wr => ∃ k : Nat, k ≤ l.length ∧ i = .int .i64 k ∧ l.take k = l'.take k ∧ Below w.heap.size w wr) (fun i _ => l.length - (intOf i).toNat)
    case atStart => exact ⟨0, by omega, rfl, by simp, Below.refl _ _⟩
    case round =>
      obtain ⟨k, hk, rfl, hT, hb⟩ := hrel
      by_cases hlt : k < l.length
      · obtain ⟨b, o, rfl, _, hb1, hc⟩ := (hA.below hb h1).at (by omega)
        obtain ⟨b', o', rfl, _, hb2, hc'⟩ := (hB.below hb h2).at (by omega)
        have hck := hc k hlt
        have hck' := hc' k (by omega)
        have hi0 : (0 : Int) ≤ k := by omega
        have hi1 : (k : Int) < l.length := by omega
        have hi2 : (k : Int) < l'.length := by omega
        clear hc hc' hne
        go_wp2_with fail
        go_region_held3 (fun w' => w'.cell? ⟨b, o + k, none⟩ = some (.int .u8 (atB l k)) ∧ w'.cell? ⟨b', o' + k, none⟩ = some (.int .u8 (atB l' k)) ∧ Below w.heap.size w w') ((go_split_ands; (repeat' apply And.intro) <;> first | assumption | (refine kept_cell hb ?_ ?_ <;> first | assumption | omega | (dsimp only; omega) | (simp <;> omega) | (simp [go_sem, *]; done)) | (refine kept_frozen hb ?_ ?_ <;> first | assumption | omega | (intro o; simp [go_sem, *]; done) | (dsimp only; omega) | (simp <;> omega)) | (intro o; simp [go_sem, *]; done) | (simp [go_sem, *]; done) | (simp <;> omega) | (have hq := hb.size; omega) | (have hq := hb.size; simp at hq; omega) | ((repeat (first | assumption | exact Below.refl _ _ | refine Below.drew ?_ | refine below_drewN ?_ _ | refine Below.setCell ?_ (by first | omega | (simp; done) | (simp <;> omega)) _ | refine Below.alloc ?_ (by first | omega | (simp; done) | (simp <;> omega)) _ | refine Below.trans ?_ (Below.mono (by assumption) (by first | omega | (simp; done) | (simp <;> omega))))); done))) (fail)
        go_split_ands
        go_wp2
        · have hq : (atB l k != atB l' k) = true := by assumption
          have hR : Hid (eqB l l' = false) := decide_eq_false (ne_of_at (by simpa using hq))
          go_ret
          exact ⟨by rw [hR.out]; rfl, by assumption⟩
        · have hq : (atB l k != atB l' k) = false := by assumption
          exact ⟨⟨k + 1, by omega, by go_num, take_eq_succ hT hlt (by omega) (by simpa using hq), by assumption⟩, by simp [intOf]; omega⟩
      · obtain rfl : k = l.length := by omega
        go_wp2
        go_ret
        exact ⟨ret_bool (by rw [ext_take _ hT (Nat.le_refl _) (by omega), eqB_self]), hb⟩
  · have hne : (((l.length : Int)) != l'.length) = true := by simp; omega
    have hR : Hid (eqB l l' = false) := decide_eq_false (fun h => hlen (by rw [h]))
    go_enter Try.func32, Try.ntmps32
    go_wp2
    go_ret
    exact ⟨by rw [hR.out]; rfl, Below.refl _ _⟩
set_option maxHeartbeats 2000000 in
theorem clone_any (A : Option Addr) (n c lo hi : Nat) (l : List Int) (w : World) (hn : l.length = n) (h : Bs w lo hi A l) (hh : hi ≤ w.heap.size) (hm : n ≤ 140737488355328) (hA : A = none → n = 0 ∧ c = 0) :
    Calls Try.prog 49 #[.slice A n c] w fun e w' => ∃ A' c', e = .returned (.slice A' n c') ∧ Ow w' w.heap.size A' c' l ∧ w.heap.size ≤ w'.heap.size ∧ Below w.heap.size w w' := by
  subst hn
  rcases A with _ | a
  · obtain ⟨h0, rfl⟩ := hA rfl
    obtain rfl : l = [] := List.eq_nil_of_length_eq_zero h0
    have hnil := fun (W : World) => Go.Lib.run_eql_slice_nil (P := Try.prog) W 48 5 none 0 0 0 0 Try.underlying48
    go_enter Try.func49, Try.ntmps49
    go_wp2
    go_ret
    exact ⟨none, 0, rfl, ⟨Byt.nil, World.ownsRow_nil _ _ _ _⟩, Nat.le_refl _, Below.refl _ _⟩
  · have hO1 := Ow.lit w [] #[] rfl Byt.nil (by simp)
    have hB1 := h.alloc hh (.cells #[] 5)
    have hnil := fun (W : World) => Go.Lib.run_eql_slice_nil (P := Try.prog) W 48 5 (some a) l.length c 0 0 Try.underlying48
    go_enter Try.func49, Try.ntmps49
    go_wp2_with (at_builtin; refine wpList_append_bs rfl (.tmp 5) (.tmp 6) rfl 0 0 l.length c (by rfl) (by rfl) rfl rfl hO1 hB1 (by omega) (by simp) ?_; intro A1 c1 w1 hO hb1 _)
    have hb2 : Below w.heap.size w w1 := Below.trans ((Below.refl _ w).alloc (Nat.le_refl _) _) hb1
    go_ret
    exact ⟨A1, c1, by simp, by simpa using hO, hb2.size, hb2⟩
end Go.Proofs.Ytjclifjipphnkaa
