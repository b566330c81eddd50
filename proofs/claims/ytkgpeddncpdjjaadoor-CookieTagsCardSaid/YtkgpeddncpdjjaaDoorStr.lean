/- Strings as lists of bytes; conversions between strings and byte slices. (Merge with Stamp3, Stamp4, StampText where a seat needs both.) -/
import Derived.Test.YtkgpeddncpdjjaaDoorMem
import Derived.Laws.IdiomStrings
namespace Go.Proofs.YtkgpeddncpdjjaaDoor
open Go.RowKit
set_option linter.unusedSimpArgs false
set_option linter.unusedVariables false
set_option maxRecDepth 100000
/-- a string's byte as a number -/
def sb (s : ByteArray) (k : Nat) : Int := ((s.data.toList.getD k 0).toNat : Int)
theorem sb_rng (s : ByteArray) (k : Nat) : 0 ≤ sb s k ∧ sb s k ≤ 255 := by
  unfold sb; have := (s.data.toList.getD k 0).toNat_lt; omega
theorem sb_get (s : ByteArray) (k : Nat) (h : k < s.size) : ((s[k]'h).toNat : Int) = sb s k := by
  unfold sb
  congr 2
  have h2 : k < s.data.toList.length := by simpa using h
  rw [List.getD_eq_getElem?_getD, List.getElem?_eq_getElem h2]
  rfl
/-- a string's bytes -/
def bl (s : ByteArray) : List Int := s.data.toList.map fun c => (c.toNat : Int)
theorem bl_len (s : ByteArray) : (bl s).length = s.size := by simp [bl]
theorem bl_at (s : ByteArray) (k : Nat) : atB (bl s) k = sb s k := by
  unfold atB bl sb
  rcases Nat.lt_or_ge k s.data.toList.length with h | h
  · simp [List.getD_eq_getElem?_getD, List.getElem?_eq_getElem h]
  · simp [List.getD_eq_getElem?_getD, List.getElem?_eq_none h]
theorem bl_byt (s : ByteArray) : Byt (bl s) := by
  intro x hx
  obtain ⟨c, _, rfl⟩ := List.mem_map.1 hx
  have := c.toNat_lt
  omega
/-- the string of bytes -/
def strOf (l : List Int) : ByteArray := ⟨(l.map fun n => UInt8.ofNat n.toNat).toArray⟩
theorem strOf_bl (s : ByteArray) : strOf (bl s) = s := by
  unfold strOf bl
  rw [List.map_map]
  have : (s.data.toList.map ((fun n : Int => UInt8.ofNat n.toNat) ∘ fun c : UInt8 => (c.toNat : Int))) = s.data.toList := by
    rw [List.map_congr_left (g := id)]
    · simp
    · intro c _; simp
  rw [this]
theorem bl_strOf {l : List Int} (h : Byt l) : bl (strOf l) = l := by
  unfold strOf bl
  simp only [List.toList_toArray, List.map_map]
  rw [List.map_congr_left (g := id)]
  · simp
  · intro x hx
    have := h x hx
    simp only [Function.comp, id, UInt8.toNat_ofNat']
    omega
theorem strOf_conv {w : World} {lo hi c n : Nat} {A : Option Addr} {l : List Int} (hn : l.length = n) (h : Bs w lo hi A l) (hA : 0 < n) :
    (convert 30 9 (.slice A n c)).run Tryd.prog w = .ok (.string (strOf l)) w := by
  subst hn
  obtain ⟨b, o, rfl, _, _, hc⟩ := h.at hA
  have hr := run_convert_bytes_back (P := Tryd.prog) w 30 9 5 ⟨b, o, none⟩ c (l.map fun n => UInt8.ofNat n.toNat) Tryd.underlying30 Tryd.underlying5 Tryd.underlying9 (fun j hj => by
    rw [List.length_map] at hj
    rw [ofAdd, hc j hj]
    have hb := h.byt.at j
    have e : atB l j = l[j] := by simp [atB, List.getD_eq_getElem?_getD, List.getElem?_eq_getElem hj]
    rw [e] at hb ⊢
    simp only [List.getElem_map]
    congr 2
    simp only [UInt8.toNat_ofNat']
    omega)
  rw [List.length_map] at hr
  exact hr
/-- a string turned into bytes: new memory that reads as the string -/
theorem bytes_conv (s : ByteArray) (w : World) (hs : s.size ≤ 9223372036854775807) : ∃ c w', (convert 9 30 (.string s)).run Tryd.prog w = .ok (.slice (some ⟨w.heap.size, 0, none⟩) s.size c) w' ∧ Bs w' w.heap.size w'.heap.size (some ⟨w.heap.size, 0, none⟩) (bl s) ∧ s.size ≤ c ∧ c ≤ 9223372036854775807 ∧ Below w.heap.size w w' := by
  have hr := run_bytes_of_string (P := Tryd.prog) w 9 30 5 s Tryd.underlying9 Tryd.underlying30 Tryd.underlying5
  refine ⟨_, _, hr, ⟨bl_byt s, fun hp => ⟨w.heap.size, 0, rfl, Nat.le_refl _, by simp, fun k hk => ?_⟩⟩, grownCap_ge _ _ _ _, (by have := grownCap_le_maxLen w s.size 0 5 (by unfold maxLen; omega); unfold maxLen at this; omega), (Below.drew (Below.refl _ w)).alloc (by simp) _⟩
  rw [bl_len] at hk
  have h := heap_alloc_new w.drew (.cells (bytesRow s (grownCap w s.size 0 5)) 5 ((bytesRow s (grownCap w s.size 0 5)).size, (bytesRow s (grownCap w s.size 0 5)).size + 1))
  have hc := cell_of_row _ w.drew.heap.size k _ _ _ h
  rw [Nat.zero_add]
  refine Eq.trans hc ?_
  rw [bl_at]
  unfold bytesRow sb
  have hk2 : k < s.data.size := hk
  rw [Array.getElem?_append_left (by simpa using hk2)]
  simp [hk2, List.getD_eq_getElem?_getD]
  exact ⟨s.data[k], Array.getElem?_eq_getElem hk2, by rw [Array.getElem?_eq_getElem hk2]; rfl⟩
end Go.Proofs.YtkgpeddncpdjjaaDoor
