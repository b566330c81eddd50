/- What ntpmsg.Code, Kiss and Synced compute, and the law's own comparison of bytes; stamp of small readings of the reference. -/
import Derived.Test.YtickoncgnjgciaaNtp2
import Derived.Test.YtickoncgnjgciaaStr
namespace Go.Proofs.Ytickoncgnjgciaa
open Go.RowKit
set_option linter.unusedSimpArgs false
set_option linter.unusedVariables false
/-- four letters from A to Z -/
def icB (s : ByteArray) : Bool := decide (s.size = 4 ∧ ∀ k : Fin 4, 65 ≤ sb s k ∧ sb s k ≤ 90)
set_option maxHeartbeats 1000000 in
theorem isCode_any (s : ByteArray) (w : World) (hs : s.size ≤ 9223372036854775807) :
    Calls Try.prog 43 #[.string s] w fun e w' => e = .returned (.bool (icB s)) ∧ w = w' := by
  by_cases h4 : s.size = 4
  · go_enter Try.func43, Try.ntmps43
    go_wp2
    go_loop [9] (fun i => ∃ k : Nat, k ≤ 4 ∧ i = .int .i64 k ∧ Hid (∀ j, j < k → 65 ≤ sb s j ∧ sb s j ≤ 90)) (fun i => 4 - (intOf i).toNat)
    case atStart => exact ⟨0, by omega, rfl, fun j hj => by omega⟩
    case round =>
      obtain ⟨k, hk, rfl, HK⟩ := hrel
      by_cases hlt : k < 4
      · have ek := sb_get s k (by omega)
        have hrk := sb_rng s k
        have hltI : (k : Int) < 4 := by omega
        by_cases hx : 65 ≤ sb s k
        · by_cases hy : sb s k ≤ 90
          · go_wp2
            exact ⟨⟨k + 1, by omega, by go_num, fun j hj => (Nat.lt_or_ge j k).elim (fun h => HK.out j h) (fun h => (by omega : j = k) ▸ ⟨hx, hy⟩)⟩, by simp [intOf]; omega⟩
          · have HR : Hid (icB s = false) := decide_eq_false (fun h => hy (h.2 ⟨k, hlt⟩).2)
            go_wp2
            go_ret
            exact ⟨ret_bool HR.out.symm, rfl⟩
        · have HR : Hid (icB s = false) := decide_eq_false (fun h => hx (h.2 ⟨k, hlt⟩).1)
          go_wp2
          go_ret
          exact ⟨ret_bool HR.out.symm, rfl⟩
      · obtain rfl : k = 4 := by omega
        have HR : Hid (icB s = true) := decide_eq_true ⟨h4, fun j => HK.out j j.2⟩
        go_wp2
        go_ret
        exact ⟨ret_bool HR.out.symm, rfl⟩
  · have hne : ((s.size : Int) != 4) = true := by simp; omega
    have HR : Hid (icB s = false) := decide_eq_false (fun h => h4 h.1)
    go_enter Try.func43, Try.ntmps43
    go_wp2
    go_ret
    exact ⟨ret_bool HR.out.symm, rfl⟩
def syncB (l st : Int) : Bool := decide (l ≠ 3 ∧ 1 ≤ st ∧ st ≤ 15)
set_option maxHeartbeats 400000 in
theorem synced_any (l v m st po pr rd rp id ref org rec xmt : Int) (w : World) :
    Calls Try.prog 35 #[ntp l v m st po pr rd rp id ref org rec xmt] w fun e w' => e = .returned (.bool (syncB l st)) ∧ Below w.heap.size w w' := by
  have HD : Hid (syncB l st = decide (l ≠ 3 ∧ 1 ≤ st ∧ st ≤ 15)) := rfl
  rw [HD.out]
  by_cases h0 : l = 3
  · subst h0
    go_enter Try.func35, Try.ntmps35
    go_wp2_with (first | (go_at_call 41; ((with_reducible refine (within_any _ _ _ _).mono ?_); rintro e w1 ⟨rfl, rfl⟩)))
    go_ret
    exact ⟨ret_bool (by simp), by (repeat (first | assumption | exact Below.refl _ _ | refine Below.drew ?_ | refine below_drewN ?_ _ | refine Below.setCell ?_ (by first | omega | (simp; done) | (simp <;> omega)) _ | refine Below.alloc ?_ (by first | omega | (simp; done) | (simp <;> omega)) _ | refine Below.trans ?_ (Below.mono (by assumption) (by first | omega | (simp; done) | (simp <;> omega)))))⟩
  · have h1 : (l != 3) = true := by simpa using h0
    have H0 := Lib.hid h0
    clear h0
    go_enter Try.func35, Try.ntmps35
    go_wp2_with (first | (go_at_call 41; ((with_reducible refine (within_any _ _ _ _).mono ?_); rintro e w1 ⟨rfl, rfl⟩)))
    go_ret
    exact ⟨ret_bool (by simp [H0.out]), by (repeat (first | assumption | exact Below.refl _ _ | refine Below.drew ?_ | refine below_drewN ?_ _ | refine Below.setCell ?_ (by first | omega | (simp; done) | (simp <;> omega)) _ | refine Below.alloc ?_ (by first | omega | (simp; done) | (simp <;> omega)) _ | refine Below.trans ?_ (Below.mono (by assumption) (by first | omega | (simp; done) | (simp <;> omega)))))⟩
end Go.Proofs.Ytickoncgnjgciaa
