/- The library's bytes.Equal, bytes.Clone and bytes.Repeat at one byte and twelve. -/
import Derived.Test.YtkgpeddncpdjjaaDoorStr
import Derived.Test.YtkgpeddncpdjjaaDoorSlices
import Derived.Test.YtkgpeddncpdjjaaDoorOwn
import Derived.Test.YtkgpeddncpdjjaaDoorKp
import Derived.Lib.MakeNoZero
import Derived.Laws.CopyOwn
import Derived.Laws.Externs
import Derived.Deep.RegionLaw
import Derived.WalkSpells
namespace Go.Proofs.YtkgpeddncpdjjaaDoor
open Go.RowKit
set_option linter.unusedSimpArgs false
set_option linter.unusedVariables false
set_option maxRecDepth 100000
theorem strOf_conv' {w : World} {lo hi c n : Nat} {A : Option Addr} {l : List Int} (hn : l.length = n) (h : Bs w lo hi A l) :
    (convert 30 9 (.slice A n c)).run Tryd.prog w = .ok (.string (strOf l)) w := by
  by_cases h0 : 0 < n
  · exact strOf_conv hn h h0
  · obtain rfl : n = 0 := by omega
    obtain rfl : l = [] := List.eq_nil_of_length_eq_zero hn
    rcases A with _ | a
    · simp [convert, run_underlying Tryd.underlying30, run_underlying Tryd.underlying9, run_underlying Tryd.underlying5, strOf, loadCells, loadCellsFrom, Sem.run_bind]
      simp [Conv.bytesToString]
      rfl
    · exact run_convert_bytes_back (P := Tryd.prog) w 30 9 5 a c [] Tryd.underlying30 Tryd.underlying5 Tryd.underlying9 (fun j hj => absurd hj (by simp))
theorem strOf_inj {l m : List Int} (hl : Byt l) (hm : Byt m) : (strOf l = strOf m) ↔ l = m := ⟨fun h => by rw [← bl_strOf hl, ← bl_strOf hm, h], fun h => by rw [h]⟩
set_option maxHeartbeats 1000000 in
theorem bequal_any (A B : Option Addr) (n m c d lo hi lo' hi' : Nat) (l l' : List Int) (w : World) (hn : l.length = n) (hm : l'.length = m) (hA : Bs w lo hi A l) (hB : Bs w lo' hi' B l') :
    Calls Tryd.prog 10 #[.slice A n c, .slice B m d] w fun e w' => e = .returned (.bool (eqB l l')) ∧ w = w' := by
  have k1 := strOf_conv' (c := c) hn hA
  have k2 := strOf_conv' (c := d) hm hB
  have hE : Hid (((strOf l).toList == (strOf l').toList) = eqB l l') := by
    show ((strOf l).toList == (strOf l').toList) = eqB l l'
    unfold eqB
    rw [Bool.eq_iff_iff, beq_iff_eq, decide_eq_true_eq, ByteArray.toList_eq, ByteArray.toList_eq, ← strOf_inj hA.byt hB.byt]
    exact ⟨fun h => WideShapes.bytes_inj h, fun h => by rw [h]⟩
  generalize strOf l = s at k1 hE
  generalize strOf l' = t at k2 hE
  go_enter Tryd.func10, Tryd.ntmps10
  go_wp2
  go_ret
  refine ⟨?_, rfl⟩
  rw [← hE.out]
  rfl
set_option maxHeartbeats 1000000 in
theorem bclone_any (A : Option Addr) (n c lo hi : Nat) (l : List Int) (w : World) (hn : l.length = n) (h : Bs w lo hi A l) (hh : hi ≤ w.heap.size) (hm : n ≤ 140737488355328) (hA : A = none → n = 0 ∧ c = 0) :
    Calls Tryd.prog 20 #[.slice A n c] w fun e w' => ∃ A' c', e = .returned (.slice A' n c') ∧ Ow w' w.heap.size A' c' l ∧ w.heap.size ≤ w'.heap.size ∧ Below w.heap.size w w' := by
  subst hn
  rcases A with _ | a
  · obtain ⟨h0, rfl⟩ := hA rfl
    obtain rfl : l = [] := List.eq_nil_of_length_eq_zero h0
    have hnil := fun (W : World) => Go.Lib.run_eql_slice_nil (P := Tryd.prog) W 30 5 none 0 0 0 0 Tryd.underlying30
    go_enter Tryd.func20, Tryd.ntmps20
    go_wp2
    go_ret
    exact ⟨none, 0, rfl, ⟨Byt.nil, World.ownsRow_nil _ _ _ _⟩, Nat.le_refl _, Below.refl _ _⟩
  · have hO1 := Ow.lit w [] #[] rfl Byt.nil (by simp)
    have hB1 := h.alloc hh (.cells #[] 5)
    have hnil := fun (W : World) => Go.Lib.run_eql_slice_nil (P := Tryd.prog) W 30 5 (some a) l.length c 0 0 Tryd.underlying30
    go_enter Tryd.func20, Tryd.ntmps20
    go_wp2_with (at_builtin; refine wpList_append_bs rfl (.tmp 5) (.tmp 6) rfl 0 0 l.length c (by rfl) (by rfl) rfl rfl hO1 hB1 (by omega) (by simp) ?_; intro A1 c1 w1 hO hb1 _)
    have hb2 : Below w.heap.size w w1 := Below.trans ((Below.refl _ w).alloc (Nat.le_refl _) _) hb1
    go_ret
    exact ⟨A1, c1, by simp, by simpa using hO, hb2.size, hb2⟩
end Go.Proofs.YtkgpeddncpdjjaaDoor
