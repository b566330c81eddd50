/- What ext.Find, server.Interval and the reference's Interval compute. -/
import Derived.Test.YtjclifjipphnkaaSvG
namespace Go.Proofs.Ytjclifjipphnkaa
open Go.RowKit
set_option linter.unusedSimpArgs false
set_option linter.unusedVariables false
set_option maxRecDepth 100000
theorem Xf.open {w : World} {hi b o : Nat} {kd : Int} {dt : List Int} (h : Xf w hi b o kd dt) : ∃ A c, w.rangeAt b o [.int .i64 kd, .slice A dt.length c] ∧ Bs w 0 hi A dt ∧ dt.length ≤ c ∧ c ≤ 9223372036854775807 ∧ (A = none → dt.length = 0 ∧ c = 0) := by
  obtain ⟨A, c, c0, c1, hB, h3, h4, h5⟩ := h
  refine ⟨A, c, fun j v hv => ?_, hB, h3, h4, h5⟩
  match j with
  | 0 => simp at hv; rw [← hv]; exact c0
  | 1 => simp at hv; rw [← hv]; exact c1
  | j + 2 => simp at hv
def NoK (L : List (Int × List Int)) (kd : Int) (k : Nat) : Prop := ∀ j, j < k → kdL L j ≠ kd
set_option maxHeartbeats 4000000 in
theorem find_any (A : Option Addr) (c : Nat) (L : List (Int × List Int)) (n : Nat) (kd : Int) (w : World) (hn : L.length = n) (h : Xs w w.heap.size A L) (hnc : n ≤ c) (hc : c ≤ 9223372036854775807) (hsz : ∀ k, k < n → (dtL L k).length ≤ 140737488351232) :
    Calls Try.prog 45 #[.slice A n c, .int .i64 kd] w fun e w' => (e = .returned (.tuple #[.slice none 0 0, .bool false]) ∧ Hid (NoK L kd n) ∧ Below w.heap.size w w') ∨
      (∃ k A' c', e = .returned (.tuple #[.slice A' (dtL L k).length c', .bool true]) ∧ k < n ∧ kdL L k = kd ∧ Hid (NoK L kd k) ∧ Ow w' w.heap.size A' c' (dtL L k) ∧ Below w.heap.size w w') := by
  go_enter Try.func45, Try.ntmps45
  go_wp2
  go_loopw [10] (fun i wr => ∃ k : Nat, k ≤ n ∧ i = .int .i64 k ∧ Hid (NoK L kd k) ∧ Below w.heap.size w wr) (fun i _ => n - (intOf i).toNat)
  case atStart => exact ⟨0, by omega, rfl, fun j hj => by omega, Below.refl _ _⟩
  case round =>
    obtain ⟨k, hk, rfl, hN, hB⟩ := hrel
    by_cases hlt : k < n
    · obtain ⟨b, o, rfl, hbw, hx⟩ := (h.below hB (Nat.le_refl _)) (by omega)
      obtain ⟨Ak, ck, hrg, hBk, hlc, hcm, hno⟩ := (hx k (by omega)).open
      have hi0 : (0 : Int) ≤ k := by omega
      have hi1 : (k : Int) < n := by omega
      have hs1 := hsz k hlt
      obtain ⟨K, hK⟩ : ∃ K, K = kdL L k := ⟨_, rfl⟩
      rw [← hK] at hrg
      have HK := Lib.hid hK
      clear hx hK
      by_cases he : K = kd
      · have he' : (K == kd) = true := by simpa using he
        have HE := Lib.hid he
        clear he
        go_wp2_with (first
          | (refine wpl_loadr (by rfl) 50 _ (by rfl) b (o + k * 2) (by rfl) _ hrg _ Try.underlying50 rfl _ sizeExt (by rfl) ?_)
          | (refine wpl_alloc (by rfl) 50 (by rfl) (.agg (exL 0 none 0 0).toArray) (exL 0 none 0 0) zeroExt rfl ?_; intro wa Ja sa ba)
          | (refine wpl_store (by rfl) 50 _ _ (by rfl) wr.heap.size (by rfl) _ (by rfl) (exL K Ak (dtL L k).length ck) rfl 50 _ Ja (by rfl) _ sizeExt (by rfl) (by simp [Value.oneCell']) ?_; intro wb Jb sb gb)
          | (refine wpl_loadf (by rfl) 3 _ (by rfl) wr.heap.size 0 (by rfl) _ _ Jb _ rfl _ Try.underlying3 rfl ?_)
          | (refine wpl_loadf (by rfl) 48 _ (by rfl) wr.heap.size 1 (by rfl) _ _ Jb _ rfl _ Try.underlying48 rfl ?_))
        have hBb := ((hBk.below ba (by have := hB.size; omega)).grown gb (by have := hB.size; omega) (by intro g hg; simp at hg; have := hB.size; omega))
        have hE := clone_any Ak (dtL L k).length ck 0 w.heap.size (dtL L k) wb rfl hBb (by have := hB.size; omega) (by omega) hno
        with_reducible refine hE.mono ?_
        rintro e wc ⟨A', c', rfl, hO, hz, bc⟩
        have Bc := ((hB.trans (ba.mono hB.size)).trans (gb.below (by have := hB.size; omega) hB.size)).trans (bc.mono (by have := hB.size; omega))
        go_wp2
        go_ret2
        exact .inr ⟨k, A', c', rfl, hlt, HK.out ▸ HE.out, hN, ⟨hO.1, by
          obtain ⟨h1, h2⟩ := hO.2
          refine ⟨h1, ?_⟩
          rcases h2 with h2 | ⟨g, cap, cur, e1, e2, e3⟩
          · exact .inl h2
          · exact .inr ⟨g, cap, cur, e1, by have := hB.size; omega, e3⟩⟩, Bc⟩
      · have he' : (K == kd) = false := by simpa using he
        have hN' : Hid (NoK L kd (k + 1)) := fun j hj => by
          rcases Nat.lt_or_ge j k with h1 | h1
          · exact hN.out j h1
          · obtain rfl : j = k := by omega
            exact HK.out ▸ he
        clear he
        go_wp2_with (first
          | (refine wpl_loadr (by rfl) 50 _ (by rfl) b (o + k * 2) (by rfl) _ hrg _ Try.underlying50 rfl _ sizeExt (by rfl) ?_)
          | (refine wpl_alloc (by rfl) 50 (by rfl) (.agg (exL 0 none 0 0).toArray) (exL 0 none 0 0) zeroExt rfl ?_; intro wa Ja sa ba)
          | (refine wpl_store (by rfl) 50 _ _ (by rfl) wr.heap.size (by rfl) _ (by rfl) (exL K Ak (dtL L k).length ck) rfl 50 _ Ja (by rfl) _ sizeExt (by rfl) (by simp [Value.oneCell']) ?_; intro wb Jb sb gb)
          | (refine wpl_loadf (by rfl) 3 _ (by rfl) wr.heap.size 0 (by rfl) _ _ Jb _ rfl _ Try.underlying3 rfl ?_)
          )
        exact ⟨⟨k + 1, by omega, by go_num, hN', (hB.trans (ba.mono hB.size)).trans (gb.below (by have := hB.size; omega) hB.size)⟩, by simp [intOf]; omega⟩
    · obtain rfl : k = n := by omega
      go_wp2
      go_ret2
      exact .inl ⟨rfl, hN, hB⟩
end Go.Proofs.Ytjclifjipphnkaa
