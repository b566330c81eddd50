/- What ntpmsg.Code, Kiss and Synced compute, and the law's own comparison of bytes; stamp of small readings of the reference. -/
import Derived.Test.YtjclifjipphnkaaNtp2
import Derived.Test.YtjclifjipphnkaaStr
namespace Go.Proofs.Ytjclifjipphnkaa
open Go.RowKit
set_option linter.unusedSimpArgs false
set_option linter.unusedVariables false
set_option maxRecDepth 100000
/-- four letters from A to Z -/
def icB (s : ByteArray) : Bool := decide (s.size = 4 ∧ ∀ k : Fin 4, 65 ≤ sb s k ∧ sb s k ≤ 90)
set_option maxHeartbeats 1000000 in
theorem isCode_any (s : ByteArray) (w : World) (hs : s.size ≤ 9223372036854775807) :
    Calls Try.prog 39 #[.string s] w fun e w' => e = .returned (.bool (icB s)) ∧ w = w' := by
  by_cases h4 : s.size = 4
  · go_enter Try.func39, Try.ntmps39
    go_wp2
    go_loop [9] (fun i => ∃ k : Nat, k ≤ 4 ∧ i = .int .i64 k ∧ Hid (∀ j, j < k → 65 ≤ sb s j ∧ sb s j ≤ 90)) (fun i => 4 - (intOf i).toNat)
    case atStart => exact ⟨0, by omega, rfl, fun j hj => by omega⟩
    case round =>
      obtain ⟨k, hk, rfl, HK⟩ := hrel
      by_cases hlt : k < 4
      · have ek := sb_get s k (by omega)
        have hrk := sb_rng s k
        have hltI : (k : Int) < 4 := by omega
        by_cases hx : 65 ≤ sb s k
        · by_cases hy : sb s k ≤ 90
          · go_wp2
            exact ⟨⟨k + 1, by omega, by go_num, fun j hj => (Nat.lt_or_ge j k).elim (fun h => HK.out j h) (fun h => (by omega : j = k) ▸ ⟨hx, hy⟩)⟩, by simp [intOf]; omega⟩
          · have HR : Hid (icB s = false) := decide_eq_false (fun h => hy (h.2 ⟨k, hlt⟩).2)
            go_wp2
            go_ret
            exact ⟨ret_bool HR.out.symm, rfl⟩
        · have HR : Hid (icB s = false) := decide_eq_false (fun h => hx (h.2 ⟨k, hlt⟩).1)
          go_wp2
          go_ret
          exact ⟨ret_bool HR.out.symm, rfl⟩
      · obtain rfl : k = 4 := by omega
        have HR : Hid (icB s = true) := decide_eq_true ⟨h4, fun j => HK.out j j.2⟩
        go_wp2
        go_ret
        exact ⟨ret_bool HR.out.symm, rfl⟩
  · have hne : ((s.size : Int) != 4) = true := by simp; omega
    have HR : Hid (icB s = false) := decide_eq_false (fun h => h4 h.1)
    go_enter Try.func39, Try.ntmps39
    go_wp2
    go_ret
    exact ⟨ret_bool HR.out.symm, rfl⟩
def cdV (s : ByteArray) : Int := if icB s then numB (bl s) else 0
def cdE (s : ByteArray) : Int := if icB s then 0 else 19
theorem numB_le_pow {L : List Int} (h : Byt L) : numB L < 256 ^ L.length := by
  have aux : ∀ k : Nat, k ≤ L.length → numB (L.take k) < 256 ^ k := by
    intro k
    induction k with
    | zero => intro _; simp [numB]
    | succ k ih =>
      intro hk
      have h1 := ih (by omega)
      have h2 := h.at k
      have h3 := (numB_range (L.take k)).1
      rw [numB_succ L k (by omega), Int.pow_succ]
      have : stepB (numB (L.take k)) (atB L k) ≤ numB (L.take k) * 256 + atB L k := by unfold stepB; omega
      omega
  have := aux L.length (Nat.le_refl _)
  rwa [List.take_length] at this
set_option maxHeartbeats 1000000 in
theorem code_any (s : ByteArray) (w : World) (hs : s.size ≤ 9223372036854775807) :
    Calls Try.prog 36 #[.string s] w fun e w' => e = .returned (.tuple #[.int .u32 (cdV s), .int .i64 (cdE s)]) ∧ Below w.heap.size w w' := by
  have hi := fun W => isCode_any s W hs
  cases hc : icB s with
  | false =>
    have HV : Hid (cdV s = 0) := by show cdV s = 0; unfold cdV; rw [hc]; rfl
    have HE : Hid (cdE s = 19) := by show cdE s = 19; unfold cdE; rw [hc]; rfl
    simp only [hc] at hi
    go_enter Try.func36, Try.ntmps36
    go_wp2_with (first | (go_at_call 39; ((with_reducible refine (hi _).mono ?_); rintro e w1 ⟨rfl, rfl⟩)))
    go_ret2
    exact ⟨tup2 (vint HV.out.symm) (vint HE.out.symm), Below.refl _ _⟩
  | true =>
    have h4 : s.size = 4 := (of_decide_eq_true hc).1
    have HV : Hid (cdV s = numB (bl s)) := by show cdV s = _; unfold cdV; rw [hc]; rfl
    have HE : Hid (cdE s = 0) := by show cdE s = 0; unfold cdE; rw [hc]; rfl
    simp only [hc] at hi
    obtain ⟨c, w1, hr, hB, hc4, hcm, hb⟩ := bytes_conv s w hs
    rw [h4] at hr
    have hlen : (bl s).length = 4 := by rw [bl_len]; exact h4
    have hg := get_any (some ⟨w.heap.size, 0, none⟩) 4 c w.heap.size w1.heap.size (bl s) 0 4 w1 hlen hB (by omega) hcm (by omega)
    have hG : getR (bl s) 0 4 = .tuple #[.int .u64 (numB (bl s)), .int .i64 0] := by
      have hGV : getV (bl s) 0 4 = numB (bl s) := by
        unfold getV
        rw [show (4 : Int).toNat = 4 from rfl, show (0 : Int).toNat = 0 from rfl, List.drop_zero, List.take_of_length_le (by omega)]
      rw [getR, getE_0 (by omega) (by rw [hlen]; omega), z0_zero, hGV]
    rw [hG] at hg
    have hn := numB_le_pow (bl_byt s)
    have hn0 := (numB_range (bl s)).1
    rw [hlen] at hn
    have hw : IntKind.u32.wrap (numB (bl s)) = numB (bl s) := by rw [IntKind.wrap_u32]; omega
    clear hG hn
    go_enter Try.func36, Try.ntmps36
    go_wp2_with (first | (go_at_call 39; ((with_reducible refine (hi _).mono ?_); rintro e w1 ⟨rfl, rfl⟩)) | (go_at_call 51; ((with_reducible refine hg.mono ?_); rintro e w2 ⟨rfl, rfl⟩)))
    go_ret2
    exact ⟨tup2 (vint HV.out.symm) (vint HE.out.symm), hb⟩
def syncB (l st : Int) : Bool := decide (l ≠ 3 ∧ 1 ≤ st ∧ st ≤ 15)
set_option maxHeartbeats 400000 in
theorem synced_any (l v m st po pr rd rp id ref org rec xmt : Int) (w : World) :
    Calls Try.prog 17 #[ntp l v m st po pr rd rp id ref org rec xmt] w fun e w' => e = .returned (.bool (syncB l st)) ∧ Below w.heap.size w w' := by
  have HD : Hid (syncB l st = decide (l ≠ 3 ∧ 1 ≤ st ∧ st ≤ 15)) := rfl
  rw [HD.out]
  by_cases h0 : l = 3
  · subst h0
    go_enter Try.func17, Try.ntmps17
    go_wp2_with (first | (go_at_call 40; ((with_reducible refine (within_any _ _ _ _).mono ?_); rintro e w1 ⟨rfl, rfl⟩)))
    go_ret
    exact ⟨ret_bool (by simp), by (repeat (first | assumption | exact Below.refl _ _ | refine Below.drew ?_ | refine below_drewN ?_ _ | refine Below.setCell ?_ (by first | omega | (simp; done) | (simp <;> omega)) _ | refine Below.alloc ?_ (by first | omega | (simp; done) | (simp <;> omega)) _ | refine Below.trans ?_ (Below.mono (by assumption) (by first | omega | (simp; done) | (simp <;> omega)))))⟩
  · have h1 : (l != 3) = true := by simpa using h0
    have H0 := Lib.hid h0
    clear h0
    go_enter Try.func17, Try.ntmps17
    go_wp2_with (first | (go_at_call 40; ((with_reducible refine (within_any _ _ _ _).mono ?_); rintro e w1 ⟨rfl, rfl⟩)))
    go_ret
    exact ⟨ret_bool (by simp [H0.out]), by (repeat (first | assumption | exact Below.refl _ _ | refine Below.drew ?_ | refine below_drewN ?_ _ | refine Below.setCell ?_ (by first | omega | (simp; done) | (simp <;> omega)) _ | refine Below.alloc ?_ (by first | omega | (simp; done) | (simp <;> omega)) _ | refine Below.trans ?_ (Below.mono (by assumption) (by first | omega | (simp; done) | (simp <;> omega)))))⟩
end Go.Proofs.Ytjclifjipphnkaa
