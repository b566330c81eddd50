/- What slices.Equal and slices.Clone compute on byte slices. -/
import Derived.Test.YtghcaplhanjgbaaMem
import Derived.Lib.SliceRun
namespace Go.Proofs.Ytghcaplhanjgbaa
open Go.RowKit
set_option linter.unusedSimpArgs false
set_option linter.unusedVariables false
set_option maxRecDepth 100000
theorem ext_take {l m : List Int} (k : Nat) (h : l.take k = m.take k) (hl : l.length ≤ k) (hm : m.length ≤ k) : l = m := by
  rw [List.take_of_length_le hl, List.take_of_length_le hm] at h; exact h
theorem take_eq_succ {l m : List Int} {k : Nat} (h : l.take k = m.take k) (hl : k < l.length) (hm : k < m.length) (he : atB l k = atB m k) : l.take (k + 1) = m.take (k + 1) := by
  rw [List.take_add_one, List.take_add_one, h]
  congr 2
  rw [List.getElem?_eq_getElem hl, List.getElem?_eq_getElem hm]
  unfold atB at he
  rw [List.getD_eq_getElem?_getD, List.getD_eq_getElem?_getD, List.getElem?_eq_getElem hl, List.getElem?_eq_getElem hm] at he
  simpa using he
theorem ne_of_at {l m : List Int} {k : Nat} (h : atB l k ≠ atB m k) : l ≠ m := fun e => h (by rw [e])
def eqB (l m : List Int) : Bool := decide (l = m)
theorem eqB_self (l : List Int) : eqB l l = true := by simp [eqB]
set_option maxHeartbeats 2000000 in
theorem clone_any (A : Option Addr) (n c lo hi : Nat) (l : List Int) (w : World) (hn : l.length = n) (h : Bs w lo hi A l) (hh : hi ≤ w.heap.size) (hm : n ≤ 140737488355328) (hA : A = none → n = 0 ∧ c = 0) :
    Calls Try.prog 15 #[.slice A n c] w fun e w' => ∃ A' c', e = .returned (.slice A' n c') ∧ Ow w' w.heap.size A' c' l ∧ w.heap.size ≤ w'.heap.size ∧ Below w.heap.size w w' := by
  subst hn
  rcases A with _ | a
  · obtain ⟨h0, rfl⟩ := hA rfl
    obtain rfl : l = [] := List.eq_nil_of_length_eq_zero h0
    have hnil := fun (W : World) => Go.Lib.run_eql_slice_nil (P := Try.prog) W 27 5 none 0 0 0 0 Try.underlying27
    go_enter Try.func15, Try.ntmps15
    go_wp2
    go_ret
    exact ⟨none, 0, rfl, ⟨Byt.nil, World.ownsRow_nil _ _ _ _⟩, Nat.le_refl _, Below.refl _ _⟩
  · have hO1 := Ow.lit w [] #[] rfl Byt.nil (by simp)
    have hB1 := h.alloc hh (.cells #[] 5)
    have hnil := fun (W : World) => Go.Lib.run_eql_slice_nil (P := Try.prog) W 27 5 (some a) l.length c 0 0 Try.underlying27
    go_enter Try.func15, Try.ntmps15
    go_wp2_with (at_builtin; refine wpList_append_bs rfl (.tmp 5) (.tmp 6) rfl 0 0 l.length c (by rfl) (by rfl) rfl rfl hO1 hB1 (by omega) (by simp) ?_; intro A1 c1 w1 hO hb1 _)
    have hb2 : Below w.heap.size w w1 := Below.trans ((Below.refl _ w).alloc (Nat.le_refl _) _) hb1
    go_ret
    exact ⟨A1, c1, by simp, by simpa using hO, hb2.size, hb2⟩
end Go.Proofs.Ytghcaplhanjgbaa
