/- Lists of fields whose cells are the call's own and whose bytes lie in older memory. No function of the program occurs here. -/
import Derived.Test.YtjclifjipphnkaaEx3
import Derived.Test.YtjclifjipphnkaaSvN
namespace Go.Proofs.Ytjclifjipphnkaa
open Go.RowKit
set_option linter.unusedSimpArgs false
set_option linter.unusedVariables false
set_option maxRecDepth 100000
theorem rowX_app2 (T : List XT) : ∀ U : List XT, rowX (U ++ T) = rowX U ++ rowX T
  | [] => rfl
  | u :: U => by show _ :: _ :: rowX (U ++ T) = _; rw [rowX_app2 T U]; rfl
theorem rowX_one : ∀ (T : List XT), ∀ u ∈ rowX T, u.oneCell' = true
  | [] => fun u hu => by simp [rowX] at hu
  | t :: T => fun u hu => by
    simp only [rowX, List.mem_cons] at hu
    rcases hu with rfl | rfl | hu
    · rfl
    · rfl
    · exact rowX_one T u hu
theorem rowX_get : ∀ (T : List XT) (j : Nat) (u : Value), (rowX T)[j]? = some u → ∃ (k : Nat) (h : k < T.length), (j = k * 2 ∧ u = .int .i64 (T[k]'h).1.1) ∨ (j = k * 2 + 1 ∧ u = .slice (T[k]'h).2.1 (T[k]'h).1.2.length (T[k]'h).2.2) := by
  intro T j u hu
  have hj : j < T.length * 2 := by rw [← rowX_len]; exact (List.getElem?_eq_some_iff.1 hu).1
  obtain ⟨r0, r1⟩ := rowX_at T (j / 2) (by omega)
  refine ⟨j / 2, by omega, ?_⟩
  by_cases hp : j % 2 = 0
  · left
    refine ⟨by omega, ?_⟩
    rw [show j / 2 * 2 = j by omega] at r0
    rw [r0] at hu
    injection hu with hu
    exact hu.symm
  · right
    refine ⟨by omega, ?_⟩
    rw [show j / 2 * 2 + 1 = j by omega] at r1
    rw [r1] at hu
    injection hu with hu
    exact hu.symm
/-- the bytes of a field lie below lo -/
def XD (w : World) (lo : Nat) (t : XT) : Prop := Bs w 0 lo t.2.1 t.1.2 ∧ t.1.2.length ≤ t.2.2 ∧ t.2.2 ≤ 9223372036854775807 ∧ (t.2.1 = none → t.1.2.length = 0 ∧ t.2.2 = 0)
def XB (w : World) (lo : Nat) (A : Option Addr) (c : Nat) (T : List XT) : Prop := w.ownsRow lo 50 2 (.slice A T.length c) T.length (rowX T) ∧ ∀ t ∈ T, XD w lo t
section
variable {w w' : World} {lo : Nat} {A : Option Addr} {c : Nat} {T : List XT}
theorem XD.below {B : Nat} {t : XT} (h : XD w lo t) (hb : Below B w w') (h1 : lo ≤ B) : XD w' lo t := ⟨h.1.below hb h1, h.2⟩
theorem XB.nil (w : World) (lo : Nat) : XB w lo none 0 [] := ⟨World.ownsRow_nil _ _ _ _, fun t ht => by cases ht⟩
theorem XB.below {B : Nat} (h : XB w lo A c T) (hb : Below B w w') (h1 : w.heap.size ≤ B) (h2 : lo ≤ B) : XB w' lo A c T :=
  ⟨own_kept h.1 fun g hg => hb.block g (by have := (h.1.lt g hg).2; omega), fun t ht => (h.2 t ht).below hb h2⟩
theorem XB.cap (h : XB w lo A c T) : T.length ≤ c ∧ c ≤ 9223372036854775807 ∧ (A = none → T.length = 0 ∧ c = 0) := by
  rcases h.1.2 with ⟨e, h0⟩ | ⟨g, cap, cur, e, _, _, h1, h2, _⟩
  · injection e with e1 e2 e3
    subst e1 e3
    rw [h0]
    exact ⟨by omega, by omega, fun _ => ⟨rfl, rfl⟩⟩
  · injection e with e1 e2 e3
    subst e1 e3
    unfold maxLen at h2
    exact ⟨h1, h2, fun h => by cases h⟩
theorem flds_kd (T : List XT) (k : Nat) (hk : k < T.length) : kdL (flds T) k = (T[k]'hk).1.1 := by unfold kdL flds; rw [List.getD_eq_getElem?_getD, List.getElem?_map, List.getElem?_eq_getElem hk]; rfl
theorem flds_dt (T : List XT) (k : Nat) (hk : k < T.length) : dtL (flds T) k = (T[k]'hk).1.2 := by unfold dtL flds; rw [List.getD_eq_getElem?_getD, List.getElem?_map, List.getElem?_eq_getElem hk]; rfl
theorem XB.xs (h : XB w lo A c T) (hlo : lo ≤ w.heap.size) : Xs w w.heap.size A (flds T) := by
  intro hp
  rw [flds_len] at hp
  obtain ⟨g, cap, e, h4, h5, _, _, hc⟩ := own_form h.1 hp
  have hA : A = some ⟨g, 0, none⟩ := by injection e
  subst hA
  refine ⟨g, 0, rfl, h5, fun k hk => ?_⟩
  rw [flds_len] at hk
  obtain ⟨r0, r1⟩ := rowX_at T k hk
  obtain ⟨d1, d2, d3, d4⟩ := h.2 (T[k]) (List.getElem_mem hk)
  rw [flds_kd T k hk, flds_dt T k hk, Nat.zero_add]
  exact ⟨(T[k]).2.1, (T[k]).2.2, (hc _ (by omega)).trans r0, (hc _ (by omega)).trans r1, d1.wide (Nat.le_refl _) hlo, d2, d3, d4⟩
/-- fields more -/
theorem xb_push {w1 : World} {v' : Value} {U : List XT} (h : XB w lo A c T) (hU : ∀ t ∈ U, XD w lo t) (hr : w1.ownsRow lo 50 2 v' (T.length + U.length) (rowX T ++ rowX U)) (hb : Below lo w w1) : ∃ A' c', v' = .slice A' (T ++ U).length c' ∧ XB w1 lo A' c' (T ++ U) := by
  have key : ∃ A' c', v' = .slice A' (T ++ U).length c' := by
    rw [List.length_append]
    rcases hr.2 with ⟨e, h0⟩ | ⟨g, cap, cur, e, _⟩
    · exact ⟨none, 0, by rw [h0]; exact e⟩
    · exact ⟨_, cap, e⟩
  obtain ⟨A', c', rfl⟩ := key
  refine ⟨A', c', rfl, ?_, fun t ht => ?_⟩
  · rw [List.length_append, rowX_app2] at *
    exact hr
  · rcases List.mem_append.1 ht with ht | ht
    · exact (h.2 t ht).below hb (Nat.le_refl _)
    · exact (hU t ht).below hb (Nat.le_refl _)
end
/-- the cells of a list that came in, as a row -/
theorem xs_rows {w : World} {hi : Nat} {ad : Addr} {L : Flds} (h : Xs w hi (some ad) L) : ∃ U : List XT, flds U = L ∧ (∀ j u, (rowX U)[j]? = some u → w.cell? (ad.add j) = some u) ∧ ∀ t ∈ U, XD w hi t := by
  by_cases hp : 0 < L.length
  · obtain ⟨b, o, e, _, hf⟩ := h hp
    injection e with e
    subst e
    have hf' : ∀ k, k < L.length → ∃ q : Option Addr × Nat, w.cell? ⟨b, o + k * 2, none⟩ = some (.int .i64 (kdL L k)) ∧ w.cell? ⟨b, o + k * 2 + 1, none⟩ = some (.slice q.1 (dtL L k).length q.2) ∧ XD w hi ((kdL L k, dtL L k), q) := fun k hk => by
      obtain ⟨A, c, c0, c1, d1, d2, d3, d4⟩ := hf k hk
      exact ⟨(A, c), c0, c1, d1, d2, d3, d4⟩
    obtain ⟨Q, hQ⟩ := Go.Deep.choose_lt hf'
    refine ⟨(List.range L.length).map fun k => ((kdL L k, dtL L k), Q k), ?_, fun j u hu => ?_, fun t ht => ?_⟩
    · unfold flds
      apply List.ext_getElem (by simp)
      intro i h1 h2
      simp only [List.getElem_map, List.getElem_range, Function.comp]
      unfold kdL dtL
      simp [List.getD_eq_getElem?_getD, List.getElem?_eq_getElem h2]
    · obtain ⟨k, hk, hj⟩ := rowX_get _ j u hu
      have hk' : k < L.length := by simpa using hk
      obtain ⟨c0, c1, _⟩ := hQ k hk'
      rcases hj with ⟨rfl, rfl⟩ | ⟨rfl, rfl⟩
      · rw [ofAdd]; simpa using c0
      · rw [ofAdd, ← Nat.add_assoc]; simpa using c1
    · simp only [List.mem_map, List.mem_range] at ht
      obtain ⟨k, hk, rfl⟩ := ht
      exact (hQ k hk).2.2
  · refine ⟨[], ?_, fun j u hu => by simp [rowX] at hu, fun t ht => by cases ht⟩
    have : L = [] := List.eq_nil_of_length_eq_zero (by omega)
    rw [this]; rfl
end Go.Proofs.Ytjclifjipphnkaa
