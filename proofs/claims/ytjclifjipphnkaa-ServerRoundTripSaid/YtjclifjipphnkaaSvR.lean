/- The plain law of the server's round trip: what the list of fields holds, and the interval of the field. No function of the program occurs here. -/
import Derived.Test.YtjclifjipphnkaaSvQ
import Derived.Test.YtjclifjipphnkaaEx1
namespace Go.Proofs.Ytjclifjipphnkaa
open Go.RowKit
set_option linter.unusedSimpArgs false
set_option linter.unusedVariables false
set_option maxRecDepth 100000
/-- the fields that the law keeps of those before -/
def keepF (L : Flds) : Flds := L.filter fun t => t.1 != 28929
theorem keepF_step {L : Flds} {k : Nat} (h : k < L.length) : keepF (L.take (k + 1)) = keepF (L.take k) ++ (if kdL L k = 28929 then [] else [(kdL L k, dtL L k)]) := by
  unfold keepF
  rw [fl_take h, List.filter_append]
  congr 1
  by_cases hk : kdL L k = 28929
  · rw [if_pos hk]; simp [hk]
  · rw [if_neg hk]; simp [hk]
theorem keepF_len (L : Flds) : (keepF L).length ≤ L.length := List.length_filter_le _ _
theorem keepF_mem {L : Flds} {t : Int × List Int} (h : t ∈ keepF L) : t ∈ L := (List.mem_filter.1 h).1
theorem keepF_noK (M R : Flds) : NoK (keepF M ++ R) 28929 (keepF M).length := by
  intro j hj
  have e : kdL (keepF M ++ R) j = ((keepF M)[j]'hj).1 := by
    unfold kdL
    rw [List.getD_eq_getElem?_getD, List.getElem?_append_left hj, List.getElem?_eq_getElem hj]
    rfl
  rw [e]
  have := (List.mem_filter.1 (List.getElem_mem hj : (keepF M)[j] ∈ keepF M)).2
  simpa using this
theorem at_mid (M R : Flds) (t : Int × List Int) : kdL (M ++ t :: R) M.length = t.1 ∧ dtL (M ++ t :: R) M.length = t.2 := by
  unfold kdL dtL
  rw [List.getD_eq_getElem?_getD, List.getElem?_append_right (Nat.le_refl _)]
  simp
/-- the bytes of the interval -/
def ivD (a b : Int) : List Int := bytesB 8 (u64 a) ++ bytesB 8 (u64 b)
theorem ivD_len (a b : Int) : (ivD a b).length = 16 := by unfold ivD; rw [List.length_append, bytesB_length, bytesB_length]
theorem ivD_byt (a b : Int) : Byt (ivD a b) := (bytesB_byt _ _).app (bytesB_byt _ _)
theorem iv_u64 {a : Int} (h : -9223372036854775808 ≤ a ∧ a ≤ 9223372036854775807) : i64 (numB (bytesB 8 (u64 a))) = a := by
  have hr := u64_rng a
  rw [numB_bytesB' 8 _ (by omega) (by omega) (by omega)]
  unfold i64 wrap64 u64
  omega
theorem ivD_back {a b : Int} (ha : -9223372036854775808 ≤ a ∧ a ≤ 9223372036854775807) (hb : -9223372036854775808 ≤ b ∧ b ≤ 9223372036854775807) (h : ivB a b = true) : irA (ivD a b) = a ∧ irB (ivD a b) = b ∧ irE (ivD a b) = 0 := by
  have e1 : ivLo (ivD a b) = a := by unfold ivLo ivD; rw [List.take_left' (bytesB_length _ _)]; exact iv_u64 ha
  have e2 : ivHi (ivD a b) = b := by unfold ivHi ivD; rw [List.drop_left' (bytesB_length _ _)]; exact iv_u64 hb
  have e3 : irE (ivD a b) = 0 := by unfold irE; rw [if_pos (ivD_len a b), e1, e2, if_pos h]
  exact ⟨by unfold irA; rw [if_pos e3]; exact e1, by unfold irB; rw [if_pos e3]; exact e2, e3⟩
theorem dt_all {L : Flds} {B : Nat} : (∀ k, k < L.length → (dtL L k).length ≤ B) ↔ ∀ t ∈ L, t.2.length ≤ B := by
  constructor
  · intro h t ht
    obtain ⟨i, hi, rfl⟩ := List.mem_iff_getElem.1 ht
    have := h i hi
    unfold dtL at this
    rwa [List.getD_eq_getElem?_getD, List.getElem?_eq_getElem hi] at this
  · intro h k hk
    unfold dtL
    rw [List.getD_eq_getElem?_getD, List.getElem?_eq_getElem hk]
    exact h _ (List.getElem_mem hk)
/-- the list that the law lays together -/
theorem trip_flds {L1 L2 : Flds} {a b : Int} {T U : List XT} {g : Option Addr × Nat} (h1 : flds T = keepF L1) (h2 : flds U = L2) : flds (T ++ [((28929, ivD a b), g)] ++ U) = keepF L1 ++ (28929, ivD a b) :: L2 := by
  unfold flds at *
  rw [List.map_append, List.map_append, h1, h2]
  simp
end Go.Proofs.Ytjclifjipphnkaa
