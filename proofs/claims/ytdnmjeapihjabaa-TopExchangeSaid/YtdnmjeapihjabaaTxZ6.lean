/- What sample.Of computes of an exchange that lies within the bounds, without a tolerance. (under way) -/
import Derived.Test.YtdnmjeapihjabaaTxZ5
namespace Go.Proofs.Ytdnmjeapihjabaa
open Go.RowKit
set_option linter.unusedSimpArgs false
set_option linter.unusedVariables false
set_option maxRecDepth 100000
theorem sizeQuadT : (Try.prog.info? 23).map (·.size) = some 4 := by kernel_rfl
theorem i64Sz : ∀ h : 3 < Try.prog.types.size, (Try.prog.types[3]'h).size = 1 := fun h => by
  have := sizeI64
  have h2 : Try.prog.info? 3 = some (Try.prog.types[3]'h) := Array.getElem?_eq_getElem h
  rw [h2] at this
  simpa using this
theorem zeroSamp : (Try.prog.info? 54).map (·.zero) = some (some (.agg (smL 0 0 0 0).toArray)) := by kernel_rfl
abbrev quL (a b d e : Int) : List Value := [.int .i64 a, .int .i64 b, .int .i64 d, .int .i64 e]
/-- a time of day that no sum of two carries out of the bounds -/
def Tm (t : Int) : Prop := -1125899906842624 ≤ t ∧ t ≤ 1125899906842624
set_option maxHeartbeats 4000000 in
theorem sof_ok (a b d e : Int) (w : World) (ha : Tm a) (hb : Tm b) (hd : Tm d) (he : Tm e) (h1 : a ≤ e) (h2 : b ≤ d) :
    Calls Try.prog 13 #[.agg (quL a b d e).toArray, .int .i64 1, .int .i64 0] w fun r w' => r = .returned (.tuple #[.agg (smL ((b - a + (d - e)) / 2) (max 1 (e - a - (d - b))) 1 e).toArray, .int .i64 0]) ∧ Below w.heap.size w w' := by
  have h1' : decide (e < a) = false := decide_eq_false (by omega)
  have h2' : decide (d < b) = false := decide_eq_false (by omega)
  have hT : ∀ t, Tm t → ∀ W, Calls Try.prog 38 #[.int .i64 t] W fun e w' => e = .returned (.bool true) ∧ W = w' := fun t ht W => by
    have := isTime_any t W
    rwa [decide_eq_true (by unfold Tm at ht; omega)] at this
  have hTa := hT a ha
  have hTb := hT b hb
  have hTd := hT d hd
  have hTe := hT e he
  clear hT
  unfold Tm at ha hb hd he
  have i0 : ∀ w, (Instr.index 94 (.agg #[.int .i64 a, .int .i64 b, .int .i64 d, .int .i64 e]) (.int .i64 0)).run Try.prog w = .ok (.int .i64 a) w := fun _ => by kernel_rfl
  have i1 : ∀ w, (Instr.index 94 (.agg #[.int .i64 a, .int .i64 b, .int .i64 d, .int .i64 e]) (.int .i64 1)).run Try.prog w = .ok (.int .i64 b) w := fun _ => by kernel_rfl
  have i2 : ∀ w, (Instr.index 94 (.agg #[.int .i64 a, .int .i64 b, .int .i64 d, .int .i64 e]) (.int .i64 2)).run Try.prog w = .ok (.int .i64 d) w := fun _ => by kernel_rfl
  have i3 : ∀ w, (Instr.index 94 (.agg #[.int .i64 a, .int .i64 b, .int .i64 d, .int .i64 e]) (.int .i64 3)).run Try.prog w = .ok (.int .i64 e) w := fun _ => by kernel_rfl
  go_enter Try.func13, Try.ntmps13
  go_wp2_with (first
    | (refine wpl_box (by rfl) 23 _ (by rfl) _ (quL a b d e) (by rfl) rfl ?_; intro w1 P1 s1 b1)
    | ((refine wpl_alloc (by rfl) 54 (by rfl) (.agg (smL 0 0 0 0).toArray) (smL 0 0 0 0) zeroSamp rfl ?_; intro w2 J2 s2 b2); (have P2 := P1.below b2 (by omega)))
    | (refine wpl_loadf (by rfl) 3 _ (by rfl) w.heap.size 0 (by rfl) _ _ P2 _ rfl _ Try.underlying3 rfl ?_)
    | (refine wpl_loadf (by rfl) 3 _ (by rfl) w.heap.size 1 (by rfl) _ _ P2 _ rfl _ Try.underlying3 rfl ?_)
    | (refine wpl_loadf (by rfl) 3 _ (by rfl) w.heap.size 2 (by rfl) _ _ P2 _ rfl _ Try.underlying3 rfl ?_)
    | (refine wpl_loadf (by rfl) 3 _ (by rfl) w.heap.size 3 (by rfl) _ _ P2 _ rfl _ Try.underlying3 rfl ?_))
  go_loopw [24] (fun i wr => ∃ k : Nat, k ≤ 4 ∧ i = .int .i64 k ∧ wr = w2) (fun i _ => 4 - (intOf i).toNat)
  case atStart => exact ⟨0, by omega, rfl, rfl⟩
  case round =>
    obtain ⟨k, hk, rfl, rfl⟩ := hrel
    rcases (by omega : k = 0 ∨ k = 1 ∨ k = 2 ∨ k = 3 ∨ k = 4) with rfl | rfl | rfl | rfl | rfl
    · go_wp2_with (go_at_call 38; ((with_reducible refine (hTa _).mono ?_); rintro e w1 ⟨rfl, rfl⟩))
      exact ⟨⟨1, by omega, by first | trivial | rfl, by first | trivial | rfl⟩, by simp [intOf]⟩
    · go_wp2_with (go_at_call 38; ((with_reducible refine (hTb _).mono ?_); rintro e w1 ⟨rfl, rfl⟩))
      exact ⟨⟨2, by omega, by first | trivial | rfl, by first | trivial | rfl⟩, by simp [intOf]⟩
    · go_wp2_with (go_at_call 38; ((with_reducible refine (hTd _).mono ?_); rintro e w1 ⟨rfl, rfl⟩))
      exact ⟨⟨3, by omega, by first | trivial | rfl, by first | trivial | rfl⟩, by simp [intOf]⟩
    · go_wp2_with (go_at_call 38; ((with_reducible refine (hTe _).mono ?_); rintro e w1 ⟨rfl, rfl⟩))
      exact ⟨⟨4, by omega, by first | trivial | rfl, by first | trivial | rfl⟩, by simp [intOf]⟩
    · have hF := fun W => floor2_any (b - a + (d - e)) W (by omega) (by omega)
      have e1 : IntKind.i64.wrap (e - a) = e - a := IntWalk.i64_in _ (by omega)
      have e2 : IntKind.i64.wrap (b - a) = b - a := IntWalk.i64_in _ (by omega)
      have e3 : IntKind.i64.wrap (d - e) = d - e := IntWalk.i64_in _ (by omega)
      have e4 : IntKind.i64.wrap (b - a + (d - e)) = b - a + (d - e) := IntWalk.i64_in _ (by omega)
      have e5 : IntKind.i64.wrap (d - b) = d - b := IntWalk.i64_in _ (by omega)
      have e6 : IntKind.i64.wrap (e - a - (d - b)) = e - a - (d - b) := IntWalk.i64_in _ (by omega)
      clear hTa hTb hTd hTe
      go_wp2_with (first
        | (go_at_call 39; ((with_reducible refine (isTol_z _).mono ?_); rintro e w1 ⟨rfl, rfl⟩))
        | (refine wpl_loadf (by rfl) 3 _ (by rfl) w.heap.size 0 (by rfl) _ _ P2 _ rfl _ Try.underlying3 rfl ?_)
        | (refine wpl_loadf (by rfl) 3 _ (by rfl) w.heap.size 1 (by rfl) _ _ P2 _ rfl _ Try.underlying3 rfl ?_)
        | (refine wpl_loadf (by rfl) 3 _ (by rfl) w.heap.size 2 (by rfl) _ _ P2 _ rfl _ Try.underlying3 rfl ?_)
        | (refine wpl_loadf (by rfl) 3 _ (by rfl) w.heap.size 3 (by rfl) _ _ P2 _ rfl _ Try.underlying3 rfl ?_)
        | (go_at_call 40; ((with_reducible refine (hF _).mono ?_); rintro r w3 ⟨rfl, b3⟩; (have P3 := P2.below b3 (by omega)); (have J3 := J2.below b3 (by omega)); (have z3 := b3.size))))
      have hG := fun W => growth_z (e - a) W (by omega) (by omega)
      rcases (by omega : 1 < e - a - (d - b) ∨ e - a - (d - b) ≤ 1) with hx | hx
      · have hmx : max 1 (e - a - (d - b)) = e - a - (d - b) := by omega
        refine wp_region_heldL (fun y => y.cell? ⟨w.heap.size, 1, none⟩ = some (.int .i64 b) ∧ y.cell? ⟨w.heap.size, 2, none⟩ = some (.int .i64 d) ∧ y.cell? ⟨w.heap.size, 3, none⟩ = some (.int .i64 e)) 20 (by kernel_rfl) rfl ⟨P3.drew.cell rfl, P3.drew.cell rfl, P3.drew.cell rfl⟩ fun hHeld => ?_
        (refine wpH_take (i := 0) (v := _) (by simp only [List.getElem?_toArray, List.getElem?_cons_succ, List.getElem?_cons_zero]; rfl) (by kernel_rfl) (by kernel_rfl) (by kernel_rfl) (by intro _ _ _ h; exact h) (Or.inl ⟨by rfl, (by intro w' hSw; (try dsimp only at hSw); go_simp; first | done | with_reducible rfl)⟩) (by assumption) ?_; (try simp only [Act.put, List.setIfInBounds_toArray, List.set_cons_zero, List.set_cons_succ]))
        (refine wpH_take (i := 1) (v := _) (by simp only [List.getElem?_toArray, List.getElem?_cons_succ, List.getElem?_cons_zero]; rfl) (by kernel_rfl) (by kernel_rfl) (by kernel_rfl) (by intro _ _ _ h; exact h) (Or.inl ⟨by rfl, (by intro w' hSw; (try dsimp only at hSw); go_simp; first | done | with_reducible rfl)⟩) (by assumption) ?_; (try simp only [Act.put, List.setIfInBounds_toArray, List.set_cons_zero, List.set_cons_succ]))
        (refine wpH_take (i := 2) (v := _) (by simp only [List.getElem?_toArray, List.getElem?_cons_succ, List.getElem?_cons_zero]; rfl) (by kernel_rfl) (by kernel_rfl) (by kernel_rfl) (by intro _ _ _ h; exact h) (Or.inl ⟨by rfl, (by intro w' hSw; (try dsimp only at hSw); go_simp; first | done | with_reducible rfl)⟩) (by assumption) ?_; (try simp only [Act.put, List.setIfInBounds_toArray, List.set_cons_zero, List.set_cons_succ]))
        (refine wpH_take (i := 3) (v := _) (by simp only [List.getElem?_toArray, List.getElem?_cons_succ, List.getElem?_cons_zero]; rfl) (by kernel_rfl) (by kernel_rfl) (by kernel_rfl) (by intro _ _ _ h; exact h) (Or.inl ⟨by rfl, (by intro w' hSw; (try dsimp only at hSw); go_simp; first | done | with_reducible rfl)⟩) (by assumption) ?_; (try simp only [Act.put, List.setIfInBounds_toArray, List.set_cons_zero, List.set_cons_succ]))
        (refine wpH_take (i := 4) (v := _) (by simp only [List.getElem?_toArray, List.getElem?_cons_succ, List.getElem?_cons_zero]; rfl) (by kernel_rfl) (by kernel_rfl) (by kernel_rfl) (by intro _ _ _ h; exact h) (Or.inl ⟨by rfl, (by intro w' hSw; (try dsimp only at hSw); go_simp; first | done | with_reducible rfl)⟩) (by assumption) ?_; (try simp only [Act.put, List.setIfInBounds_toArray, List.set_cons_zero, List.set_cons_succ]))
        (refine wpH_take (i := 5) (v := _) (by simp only [List.getElem?_toArray, List.getElem?_cons_succ, List.getElem?_cons_zero]; rfl) (by kernel_rfl) (by kernel_rfl) (by kernel_rfl) (by intro _ _ _ h; exact h) (Or.inl ⟨by rfl, (by intro w' hSw; (try dsimp only at hSw); go_simp; first | done | with_reducible rfl)⟩) (by assumption) ?_; (try simp only [Act.put, List.setIfInBounds_toArray, List.set_cons_zero, List.set_cons_succ]))
        (refine wpH_take (i := 6) (v := _) (by simp only [List.getElem?_toArray, List.getElem?_cons_succ, List.getElem?_cons_zero]; rfl) (by kernel_rfl) (by kernel_rfl) (by kernel_rfl) (by intro _ _ _ h; exact h) (Or.inl ⟨by rfl, (by intro w' hSw; (try dsimp only at hSw); go_simp; first | done | with_reducible rfl)⟩) (by assumption) ?_; (try simp only [Act.put, List.setIfInBounds_toArray, List.set_cons_zero, List.set_cons_succ]))
        (refine wpH_take (i := 7) (v := _) (by simp only [List.getElem?_toArray, List.getElem?_cons_succ, List.getElem?_cons_zero]; rfl) (by kernel_rfl) (by kernel_rfl) (by kernel_rfl) (by intro _ _ _ h; exact h) (Or.inl ⟨by rfl, (by intro w' hSw; (try dsimp only at hSw); go_simp; first | done | with_reducible rfl)⟩) (by assumption) ?_; (try simp only [Act.put, List.setIfInBounds_toArray, List.set_cons_zero, List.set_cons_succ]))
        (refine wpH_take (i := 8) (v := _) (by simp only [List.getElem?_toArray, List.getElem?_cons_succ, List.getElem?_cons_zero]; rfl) (by kernel_rfl) (by kernel_rfl) (by kernel_rfl) (by intro _ _ _ h; exact h) (Or.inl ⟨by rfl, (by intro w' hSw; (try dsimp only at hSw); go_simp; first | done | with_reducible rfl)⟩) (by assumption) ?_; (try simp only [Act.put, List.setIfInBounds_toArray, List.set_cons_zero, List.set_cons_succ]))
        (refine wpH_take (i := 9) (v := _) (by simp only [List.getElem?_toArray, List.getElem?_cons_succ, List.getElem?_cons_zero]; rfl) (by kernel_rfl) (by kernel_rfl) (by kernel_rfl) (by intro _ _ _ h; exact h) (Or.inl ⟨by rfl, (by intro w' hSw; (try dsimp only at hSw); go_simp; first | done | with_reducible rfl)⟩) (by assumption) ?_; (try simp only [Act.put, List.setIfInBounds_toArray, List.set_cons_zero, List.set_cons_succ]))
        (refine wpH_take (i := 10) (v := _) (by simp only [List.getElem?_toArray, List.getElem?_cons_succ, List.getElem?_cons_zero]; rfl) (by kernel_rfl) (by kernel_rfl) (by kernel_rfl) (by intro _ _ _ h; exact h) (Or.inl ⟨by rfl, (by intro w' hSw; (try dsimp only at hSw); go_simp; first | done | with_reducible rfl)⟩) (by assumption) ?_; (try simp only [Act.put, List.setIfInBounds_toArray, List.set_cons_zero, List.set_cons_succ]))
        (refine wpH_take (i := 11) (v := _) (by simp only [List.getElem?_toArray, List.getElem?_cons_succ, List.getElem?_cons_zero]; rfl) (by kernel_rfl) (by kernel_rfl) (by kernel_rfl) (by intro _ _ _ h; exact h) (Or.inl ⟨by rfl, (by intro w' hSw; (try dsimp only at hSw); go_simp; first | done | with_reducible rfl)⟩) (by assumption) ?_; (try simp only [Act.put, List.setIfInBounds_toArray, List.set_cons_zero, List.set_cons_succ]))
        (refine wpH_take (i := 12) (v := _) (by simp only [List.getElem?_toArray, List.getElem?_cons_succ, List.getElem?_cons_zero]; rfl) (by kernel_rfl) (by kernel_rfl) (by kernel_rfl) (by intro _ _ _ h; exact h) (Or.inl ⟨by rfl, (by intro w' hSw; (try dsimp only at hSw); go_simp; first | done | with_reducible rfl)⟩) (by assumption) ?_; (try simp only [Act.put, List.setIfInBounds_toArray, List.set_cons_zero, List.set_cons_succ]))
        (refine wpH_take (i := 15) (v := _) (by simp only [List.getElem?_toArray, List.getElem?_cons_succ, List.getElem?_cons_zero]; rfl) (by kernel_rfl) (by kernel_rfl) (by kernel_rfl) (by intro _ _ _ h; exact h) (Or.inl ⟨by rfl, (by intro w' hSw; (try dsimp only at hSw); go_simp; first | done | with_reducible rfl)⟩) (by assumption) ?_; (try simp only [Act.put, List.setIfInBounds_toArray, List.set_cons_zero, List.set_cons_succ]))
        (refine wpH_take (i := 16) (v := _) (by simp only [List.getElem?_toArray, List.getElem?_cons_succ, List.getElem?_cons_zero]; rfl) (by kernel_rfl) (by kernel_rfl) (by kernel_rfl) (by intro _ _ _ h; exact h) (Or.inl ⟨by rfl, (by intro w' hSw; (try dsimp only at hSw); go_simp; first | done | with_reducible rfl)⟩) (by assumption) ?_; (try simp only [Act.put, List.setIfInBounds_toArray, List.set_cons_zero, List.set_cons_succ]))
        refine wpH_two (i := 13) (j := 18) (by simp only [List.getElem?_toArray, List.getElem?_cons_succ, List.getElem?_cons_zero]; rfl) (by simp only [List.getElem?_toArray, List.getElem?_cons_succ, List.getElem?_cons_zero]; rfl) (by kernel_rfl) (by rfl) (by rfl) ?_ ?_
        · go_simp
          with_reducible refine (hG _).mono ?_
          rintro r w4 ⟨rfl, b4⟩
          have P4 := P3.drew.below b4 P3.lt
          have J4 := J3.drew.below b4 J3.lt
          have B4 : Below w.heap.size w w4 := ((b1.trans (b2.mono (by omega))).trans (b3.mono (by omega))).drew.trans (b4.mono (by show w.heap.size ≤ w3.heap.size; omega))
          have hH4 : (w4).cell? ⟨w.heap.size, 1, none⟩ = some (.int .i64 b) ∧ (w4).cell? ⟨w.heap.size, 2, none⟩ = some (.int .i64 d) ∧ (w4).cell? ⟨w.heap.size, 3, none⟩ = some (.int .i64 e) := ⟨P4.cell rfl, P4.cell rfl, P4.cell rfl⟩
          refine ⟨hH4, ?_⟩
          (try simp only [Act.put, List.setIfInBounds_toArray, List.set_cons_zero, List.set_cons_succ])
          (refine wpH_take (i := 14) (v := _) (by simp only [List.getElem?_toArray, List.getElem?_cons_succ, List.getElem?_cons_zero]; rfl) (by kernel_rfl) (by kernel_rfl) (by kernel_rfl) (by intro _ _ _ h; exact h) (Or.inl ⟨by rfl, (by intro w' hSw; (try dsimp only at hSw); go_simp; first | done | with_reducible rfl)⟩) (by assumption) ?_; (try simp only [Act.put, List.setIfInBounds_toArray, List.set_cons_zero, List.set_cons_succ]))
          (refine wpH_take (i := 17) (v := _) (by simp only [List.getElem?_toArray, List.getElem?_cons_succ, List.getElem?_cons_zero]; rfl) (by kernel_rfl) (by kernel_rfl) (by kernel_rfl) (by intro _ _ _ h; exact h) (Or.inl ⟨by rfl, (by intro w' hSw; (try dsimp only at hSw); go_simp; first | done | with_reducible rfl)⟩) (by assumption) ?_; (try simp only [Act.put, List.setIfInBounds_toArray, List.set_cons_zero, List.set_cons_succ]))
          (refine wpH_one (i := 18) (by simp only [List.getElem?_toArray, List.getElem?_cons_succ, List.getElem?_cons_zero]; rfl) (by kernel_rfl) (by rfl) ?_; (refine wp_alloc1 54 (by rfl) (.agg (smL 0 0 0 0).toArray) (smL 0 0 0 0) zeroSamp rfl ?_; intro w5 K5 s5 b5; (have P5 := P4.below b5 P4.lt); (have J5 := J4.below b5 J4.lt); (have hH5 : (w5).cell? ⟨w.heap.size, 1, none⟩ = some (.int .i64 b) ∧ (w5).cell? ⟨w.heap.size, 2, none⟩ = some (.int .i64 d) ∧ (w5).cell? ⟨w.heap.size, 3, none⟩ = some (.int .i64 e) := ⟨P5.cell rfl, P5.cell rfl, P5.cell rfl⟩); refine ⟨hH5, ?_⟩); (try simp only [Act.put, List.setIfInBounds_toArray, List.set_cons_zero, List.set_cons_succ]))
          (refine wpH_one (i := 19) (by simp only [List.getElem?_toArray, List.getElem?_cons_succ, List.getElem?_cons_zero]; rfl) (by kernel_rfl) (by rfl) ?_; (refine wp_store1 54 _ _ (by rfl) w4.heap.size (by rfl) _ (by rfl) (smL ((b - a + (d - e)) / 2) (e - a - (d - b)) 1 e) rfl 54 _ K5 rfl _ sizeSamp rfl (by simp [Value.oneCell']) ?_; intro w6 K6 s6 g6; (have P6 := P5.but g6 (Nat.ne_of_lt P4.lt)); (have J6 := J5.but g6 (Nat.ne_of_lt J4.lt)); (have B6 : Below w.heap.size w w6 := (B4.trans (b5.mono B4.size)).trans (g6.below (by have := B4.size; omega) B4.size)); refine ⟨⟨P6.cell rfl, P6.cell rfl, P6.cell rfl⟩, ?_⟩); (try simp only [Act.put, List.setIfInBounds_toArray, List.set_cons_zero, List.set_cons_succ]))
          refine wpH_done (by kernel_rfl) ?_ _
          have hC := fun W => schk_any ((b - a + (d - e)) / 2) (e - a - (d - b)) 1 e W
          rw [show schk ((b - a + (d - e)) / 2) (e - a - (d - b)) 1 e = 0 from if_pos (by omega)] at hC
          go_wp2_with (first
            | (refine wpl_load (by rfl) 54 _ (by rfl) w4.heap.size (by rfl) 54 _ K6 _ Try.underlying54 rfl _ sizeSamp (by rfl) ?_)
            | (go_at_call 42; ((with_reducible refine (hC _).mono ?_); rintro r w7 ⟨rfl, b7⟩; (have K7 := K6.below b7 K6.lt); (have J7 := J6.below b7 J6.lt); (have B7 := B6.trans (b7.mono B6.size))))
            | (refine wpl_load (by rfl) 54 _ (by rfl) w4.heap.size (by rfl) 54 _ K7 _ Try.underlying54 rfl _ sizeSamp (by rfl) ?_)
            | (refine wpl_store (by rfl) 54 _ _ (by rfl) w1.heap.size (by rfl) _ (by rfl) _ rfl 54 _ J7 (by rfl) _ sizeSamp (by rfl) (by simp [Value.oneCell']) ?_; intro w8 J8 s8 g8))
          obtain ⟨c0, c1, c2, c3⟩ := cells4b J8
          refine bodyPost_ret (v := .tuple #[.agg (smL ((b - a + (d - e)) / 2) (e - a - (d - b)) 1 e).toArray, .int .i64 0]) (by simp [results, Try.results13, go_sem, c0, c1, c2, c3]) rfl ?_
          rw [hmx]
          exact ⟨rfl, B7.trans (g8.below B7.size (by omega))⟩
        · refine wp_alloc1 54 (by rfl) (.agg (smL 0 0 0 0).toArray) (smL 0 0 0 0) zeroSamp rfl ?_
          intro w4 K4 s4 b4
          have P4 := P3.drew.below b4 P3.lt
          have J4 := J3.drew.below b4 J3.lt
          have B4 : Below w.heap.size w w4 := ((b1.trans (b2.mono (by omega))).trans (b3.mono (by omega))).drew.trans (b4.mono (by show w.heap.size ≤ w3.heap.size; omega))
          have hH4 : (w4).cell? ⟨w.heap.size, 1, none⟩ = some (.int .i64 b) ∧ (w4).cell? ⟨w.heap.size, 2, none⟩ = some (.int .i64 d) ∧ (w4).cell? ⟨w.heap.size, 3, none⟩ = some (.int .i64 e) := ⟨P4.cell rfl, P4.cell rfl, P4.cell rfl⟩
          refine ⟨hH4, ?_⟩
          (try simp only [Act.put, List.setIfInBounds_toArray, List.set_cons_zero, List.set_cons_succ])
          (refine wpH_one (i := 13) (by simp only [List.getElem?_toArray, List.getElem?_cons_succ, List.getElem?_cons_zero]; rfl) (by kernel_rfl) (by rfl) ?_; (go_simp; (with_reducible refine (hG _).mono ?_); rintro r w5 ⟨rfl, b5⟩; (have K5 := K4.below b5 K4.lt); (have P5 := P4.below b5 P4.lt); (have J5 := J4.below b5 J4.lt); (have hH5 : (w5).cell? ⟨w.heap.size, 1, none⟩ = some (.int .i64 b) ∧ (w5).cell? ⟨w.heap.size, 2, none⟩ = some (.int .i64 d) ∧ (w5).cell? ⟨w.heap.size, 3, none⟩ = some (.int .i64 e) := ⟨P5.cell rfl, P5.cell rfl, P5.cell rfl⟩); refine ⟨hH5, ?_⟩); (try simp only [Act.put, List.setIfInBounds_toArray, List.set_cons_zero, List.set_cons_succ]))
          (refine wpH_take (i := 14) (v := _) (by simp only [List.getElem?_toArray, List.getElem?_cons_succ, List.getElem?_cons_zero]; rfl) (by kernel_rfl) (by kernel_rfl) (by kernel_rfl) (by intro _ _ _ h; exact h) (Or.inl ⟨by rfl, (by intro w' hSw; (try dsimp only at hSw); go_simp; first | done | with_reducible rfl)⟩) (by assumption) ?_; (try simp only [Act.put, List.setIfInBounds_toArray, List.set_cons_zero, List.set_cons_succ]))
          (refine wpH_take (i := 17) (v := _) (by simp only [List.getElem?_toArray, List.getElem?_cons_succ, List.getElem?_cons_zero]; rfl) (by kernel_rfl) (by kernel_rfl) (by kernel_rfl) (by intro _ _ _ h; exact h) (Or.inl ⟨by rfl, (by intro w' hSw; (try dsimp only at hSw); go_simp; first | done | with_reducible rfl)⟩) (by assumption) ?_; (try simp only [Act.put, List.setIfInBounds_toArray, List.set_cons_zero, List.set_cons_succ]))
          (refine wpH_one (i := 19) (by simp only [List.getElem?_toArray, List.getElem?_cons_succ, List.getElem?_cons_zero]; rfl) (by kernel_rfl) (by rfl) ?_; (refine wp_store1 54 _ _ (by rfl) w3.drew.heap.size (by rfl) _ (by rfl) (smL ((b - a + (d - e)) / 2) (e - a - (d - b)) 1 e) rfl 54 _ K5 rfl _ sizeSamp rfl (by simp [Value.oneCell']) ?_; intro w6 K6 s6 g6; (have P6 := P5.but g6 (Nat.ne_of_lt P3.lt)); (have J6 := J5.but g6 (Nat.ne_of_lt J3.lt)); (have B6 : Below w.heap.size w w6 := (B4.trans (b5.mono B4.size)).trans (g6.below (by have := B4.size; have := b5.size; omega) (by show w.heap.size ≤ w3.heap.size; omega))); refine ⟨⟨P6.cell rfl, P6.cell rfl, P6.cell rfl⟩, ?_⟩); (try simp only [Act.put, List.setIfInBounds_toArray, List.set_cons_zero, List.set_cons_succ]))
          refine wpH_done (by kernel_rfl) ?_ _
          have hC := fun W => schk_any ((b - a + (d - e)) / 2) (e - a - (d - b)) 1 e W
          rw [show schk ((b - a + (d - e)) / 2) (e - a - (d - b)) 1 e = 0 from if_pos (by omega)] at hC
          go_wp2_with (first
            | (refine wpl_load (by rfl) 54 _ (by rfl) w3.drew.heap.size (by rfl) 54 _ K6 _ Try.underlying54 rfl _ sizeSamp (by rfl) ?_)
            | (go_at_call 42; ((with_reducible refine (hC _).mono ?_); rintro r w7 ⟨rfl, b7⟩; (have K7 := K6.below b7 K6.lt); (have J7 := J6.below b7 J6.lt); (have B7 := B6.trans (b7.mono B6.size))))
            | (refine wpl_load (by rfl) 54 _ (by rfl) w3.drew.heap.size (by rfl) 54 _ K7 _ Try.underlying54 rfl _ sizeSamp (by rfl) ?_)
            | (refine wpl_store (by rfl) 54 _ _ (by rfl) w1.heap.size (by rfl) _ (by rfl) _ rfl 54 _ J7 (by rfl) _ sizeSamp (by rfl) (by simp [Value.oneCell']) ?_; intro w8 J8 s8 g8))
          obtain ⟨c0, c1, c2, c3⟩ := cells4b J8
          refine bodyPost_ret (v := .tuple #[.agg (smL ((b - a + (d - e)) / 2) (e - a - (d - b)) 1 e).toArray, .int .i64 0]) (by simp [results, Try.results13, go_sem, c0, c1, c2, c3]) rfl ?_
          rw [hmx]
          exact ⟨rfl, B7.trans (g8.below B7.size (by omega))⟩
      · have hmx : max 1 (e - a - (d - b)) = 1 := by omega
        refine wp_region_heldL (fun y => y.cell? ⟨w.heap.size, 1, none⟩ = some (.int .i64 b) ∧ y.cell? ⟨w.heap.size, 2, none⟩ = some (.int .i64 d) ∧ y.cell? ⟨w.heap.size, 3, none⟩ = some (.int .i64 e)) 20 (by kernel_rfl) rfl ⟨P3.drew.cell rfl, P3.drew.cell rfl, P3.drew.cell rfl⟩ fun hHeld => ?_
        (refine wpH_take (i := 0) (v := _) (by simp only [List.getElem?_toArray, List.getElem?_cons_succ, List.getElem?_cons_zero]; rfl) (by kernel_rfl) (by kernel_rfl) (by kernel_rfl) (by intro _ _ _ h; exact h) (Or.inl ⟨by rfl, (by intro w' hSw; (try dsimp only at hSw); go_simp; first | done | with_reducible rfl)⟩) (by assumption) ?_; (try simp only [Act.put, List.setIfInBounds_toArray, List.set_cons_zero, List.set_cons_succ]))
        (refine wpH_take (i := 1) (v := _) (by simp only [List.getElem?_toArray, List.getElem?_cons_succ, List.getElem?_cons_zero]; rfl) (by kernel_rfl) (by kernel_rfl) (by kernel_rfl) (by intro _ _ _ h; exact h) (Or.inl ⟨by rfl, (by intro w' hSw; (try dsimp only at hSw); go_simp; first | done | with_reducible rfl)⟩) (by assumption) ?_; (try simp only [Act.put, List.setIfInBounds_toArray, List.set_cons_zero, List.set_cons_succ]))
        (refine wpH_take (i := 2) (v := _) (by simp only [List.getElem?_toArray, List.getElem?_cons_succ, List.getElem?_cons_zero]; rfl) (by kernel_rfl) (by kernel_rfl) (by kernel_rfl) (by intro _ _ _ h; exact h) (Or.inl ⟨by rfl, (by intro w' hSw; (try dsimp only at hSw); go_simp; first | done | with_reducible rfl)⟩) (by assumption) ?_; (try simp only [Act.put, List.setIfInBounds_toArray, List.set_cons_zero, List.set_cons_succ]))
        (refine wpH_take (i := 3) (v := _) (by simp only [List.getElem?_toArray, List.getElem?_cons_succ, List.getElem?_cons_zero]; rfl) (by kernel_rfl) (by kernel_rfl) (by kernel_rfl) (by intro _ _ _ h; exact h) (Or.inl ⟨by rfl, (by intro w' hSw; (try dsimp only at hSw); go_simp; first | done | with_reducible rfl)⟩) (by assumption) ?_; (try simp only [Act.put, List.setIfInBounds_toArray, List.set_cons_zero, List.set_cons_succ]))
        (refine wpH_take (i := 4) (v := _) (by simp only [List.getElem?_toArray, List.getElem?_cons_succ, List.getElem?_cons_zero]; rfl) (by kernel_rfl) (by kernel_rfl) (by kernel_rfl) (by intro _ _ _ h; exact h) (Or.inl ⟨by rfl, (by intro w' hSw; (try dsimp only at hSw); go_simp; first | done | with_reducible rfl)⟩) (by assumption) ?_; (try simp only [Act.put, List.setIfInBounds_toArray, List.set_cons_zero, List.set_cons_succ]))
        (refine wpH_take (i := 5) (v := _) (by simp only [List.getElem?_toArray, List.getElem?_cons_succ, List.getElem?_cons_zero]; rfl) (by kernel_rfl) (by kernel_rfl) (by kernel_rfl) (by intro _ _ _ h; exact h) (Or.inl ⟨by rfl, (by intro w' hSw; (try dsimp only at hSw); go_simp; first | done | with_reducible rfl)⟩) (by assumption) ?_; (try simp only [Act.put, List.setIfInBounds_toArray, List.set_cons_zero, List.set_cons_succ]))
        (refine wpH_take (i := 6) (v := _) (by simp only [List.getElem?_toArray, List.getElem?_cons_succ, List.getElem?_cons_zero]; rfl) (by kernel_rfl) (by kernel_rfl) (by kernel_rfl) (by intro _ _ _ h; exact h) (Or.inl ⟨by rfl, (by intro w' hSw; (try dsimp only at hSw); go_simp; first | done | with_reducible rfl)⟩) (by assumption) ?_; (try simp only [Act.put, List.setIfInBounds_toArray, List.set_cons_zero, List.set_cons_succ]))
        (refine wpH_take (i := 7) (v := _) (by simp only [List.getElem?_toArray, List.getElem?_cons_succ, List.getElem?_cons_zero]; rfl) (by kernel_rfl) (by kernel_rfl) (by kernel_rfl) (by intro _ _ _ h; exact h) (Or.inl ⟨by rfl, (by intro w' hSw; (try dsimp only at hSw); go_simp; first | done | with_reducible rfl)⟩) (by assumption) ?_; (try simp only [Act.put, List.setIfInBounds_toArray, List.set_cons_zero, List.set_cons_succ]))
        (refine wpH_take (i := 8) (v := _) (by simp only [List.getElem?_toArray, List.getElem?_cons_succ, List.getElem?_cons_zero]; rfl) (by kernel_rfl) (by kernel_rfl) (by kernel_rfl) (by intro _ _ _ h; exact h) (Or.inl ⟨by rfl, (by intro w' hSw; (try dsimp only at hSw); go_simp; first | done | with_reducible rfl)⟩) (by assumption) ?_; (try simp only [Act.put, List.setIfInBounds_toArray, List.set_cons_zero, List.set_cons_succ]))
        (refine wpH_take (i := 9) (v := _) (by simp only [List.getElem?_toArray, List.getElem?_cons_succ, List.getElem?_cons_zero]; rfl) (by kernel_rfl) (by kernel_rfl) (by kernel_rfl) (by intro _ _ _ h; exact h) (Or.inl ⟨by rfl, (by intro w' hSw; (try dsimp only at hSw); go_simp; first | done | with_reducible rfl)⟩) (by assumption) ?_; (try simp only [Act.put, List.setIfInBounds_toArray, List.set_cons_zero, List.set_cons_succ]))
        (refine wpH_take (i := 10) (v := _) (by simp only [List.getElem?_toArray, List.getElem?_cons_succ, List.getElem?_cons_zero]; rfl) (by kernel_rfl) (by kernel_rfl) (by kernel_rfl) (by intro _ _ _ h; exact h) (Or.inl ⟨by rfl, (by intro w' hSw; (try dsimp only at hSw); go_simp; first | done | with_reducible rfl)⟩) (by assumption) ?_; (try simp only [Act.put, List.setIfInBounds_toArray, List.set_cons_zero, List.set_cons_succ]))
        (refine wpH_take (i := 11) (v := _) (by simp only [List.getElem?_toArray, List.getElem?_cons_succ, List.getElem?_cons_zero]; rfl) (by kernel_rfl) (by kernel_rfl) (by kernel_rfl) (by intro _ _ _ h; exact h) (Or.inl ⟨by rfl, (by intro w' hSw; (try dsimp only at hSw); go_simp; first | done | with_reducible rfl)⟩) (by assumption) ?_; (try simp only [Act.put, List.setIfInBounds_toArray, List.set_cons_zero, List.set_cons_succ]))
        (refine wpH_take (i := 12) (v := _) (by simp only [List.getElem?_toArray, List.getElem?_cons_succ, List.getElem?_cons_zero]; rfl) (by kernel_rfl) (by kernel_rfl) (by kernel_rfl) (by intro _ _ _ h; exact h) (Or.inl ⟨by rfl, (by intro w' hSw; (try dsimp only at hSw); go_simp; first | done | with_reducible rfl)⟩) (by assumption) ?_; (try simp only [Act.put, List.setIfInBounds_toArray, List.set_cons_zero, List.set_cons_succ]))
        (refine wpH_take (i := 15) (v := _) (by simp only [List.getElem?_toArray, List.getElem?_cons_succ, List.getElem?_cons_zero]; rfl) (by kernel_rfl) (by kernel_rfl) (by kernel_rfl) (by intro _ _ _ h; exact h) (Or.inl ⟨by rfl, (by intro w' hSw; (try dsimp only at hSw); go_simp; first | done | with_reducible rfl)⟩) (by assumption) ?_; (try simp only [Act.put, List.setIfInBounds_toArray, List.set_cons_zero, List.set_cons_succ]))
        (refine wpH_take (i := 16) (v := _) (by simp only [List.getElem?_toArray, List.getElem?_cons_succ, List.getElem?_cons_zero]; rfl) (by kernel_rfl) (by kernel_rfl) (by kernel_rfl) (by intro _ _ _ h; exact h) (Or.inl ⟨by rfl, (by intro w' hSw; (try dsimp only at hSw); go_simp; first | done | with_reducible rfl)⟩) (by assumption) ?_; (try simp only [Act.put, List.setIfInBounds_toArray, List.set_cons_zero, List.set_cons_succ]))
        refine wpH_two (i := 13) (j := 18) (by simp only [List.getElem?_toArray, List.getElem?_cons_succ, List.getElem?_cons_zero]; rfl) (by simp only [List.getElem?_toArray, List.getElem?_cons_succ, List.getElem?_cons_zero]; rfl) (by kernel_rfl) (by rfl) (by rfl) ?_ ?_
        · go_simp
          with_reducible refine (hG _).mono ?_
          rintro r w4 ⟨rfl, b4⟩
          have P4 := P3.drew.below b4 P3.lt
          have J4 := J3.drew.below b4 J3.lt
          have B4 : Below w.heap.size w w4 := ((b1.trans (b2.mono (by omega))).trans (b3.mono (by omega))).drew.trans (b4.mono (by show w.heap.size ≤ w3.heap.size; omega))
          have hH4 : (w4).cell? ⟨w.heap.size, 1, none⟩ = some (.int .i64 b) ∧ (w4).cell? ⟨w.heap.size, 2, none⟩ = some (.int .i64 d) ∧ (w4).cell? ⟨w.heap.size, 3, none⟩ = some (.int .i64 e) := ⟨P4.cell rfl, P4.cell rfl, P4.cell rfl⟩
          refine ⟨hH4, ?_⟩
          (try simp only [Act.put, List.setIfInBounds_toArray, List.set_cons_zero, List.set_cons_succ])
          (refine wpH_take (i := 14) (v := _) (by simp only [List.getElem?_toArray, List.getElem?_cons_succ, List.getElem?_cons_zero]; rfl) (by kernel_rfl) (by kernel_rfl) (by kernel_rfl) (by intro _ _ _ h; exact h) (Or.inl ⟨by rfl, (by intro w' hSw; (try dsimp only at hSw); go_simp; first | done | with_reducible rfl)⟩) (by assumption) ?_; (try simp only [Act.put, List.setIfInBounds_toArray, List.set_cons_zero, List.set_cons_succ]))
          (refine wpH_take (i := 17) (v := _) (by simp only [List.getElem?_toArray, List.getElem?_cons_succ, List.getElem?_cons_zero]; rfl) (by kernel_rfl) (by kernel_rfl) (by kernel_rfl) (by intro _ _ _ h; exact h) (Or.inl ⟨by rfl, (by intro w' hSw; (try dsimp only at hSw); go_simp; first | done | with_reducible rfl)⟩) (by assumption) ?_; (try simp only [Act.put, List.setIfInBounds_toArray, List.set_cons_zero, List.set_cons_succ]))
          (refine wpH_one (i := 18) (by simp only [List.getElem?_toArray, List.getElem?_cons_succ, List.getElem?_cons_zero]; rfl) (by kernel_rfl) (by rfl) ?_; (refine wp_alloc1 54 (by rfl) (.agg (smL 0 0 0 0).toArray) (smL 0 0 0 0) zeroSamp rfl ?_; intro w5 K5 s5 b5; (have P5 := P4.below b5 P4.lt); (have J5 := J4.below b5 J4.lt); (have hH5 : (w5).cell? ⟨w.heap.size, 1, none⟩ = some (.int .i64 b) ∧ (w5).cell? ⟨w.heap.size, 2, none⟩ = some (.int .i64 d) ∧ (w5).cell? ⟨w.heap.size, 3, none⟩ = some (.int .i64 e) := ⟨P5.cell rfl, P5.cell rfl, P5.cell rfl⟩); refine ⟨hH5, ?_⟩); (try simp only [Act.put, List.setIfInBounds_toArray, List.set_cons_zero, List.set_cons_succ]))
          (refine wpH_one (i := 19) (by simp only [List.getElem?_toArray, List.getElem?_cons_succ, List.getElem?_cons_zero]; rfl) (by kernel_rfl) (by rfl) ?_; (refine wp_store1 54 _ _ (by rfl) w4.heap.size (by rfl) _ (by rfl) (smL ((b - a + (d - e)) / 2) (1) 1 e) rfl 54 _ K5 rfl _ sizeSamp rfl (by simp [Value.oneCell']) ?_; intro w6 K6 s6 g6; (have P6 := P5.but g6 (Nat.ne_of_lt P4.lt)); (have J6 := J5.but g6 (Nat.ne_of_lt J4.lt)); (have B6 : Below w.heap.size w w6 := (B4.trans (b5.mono B4.size)).trans (g6.below (by have := B4.size; omega) B4.size)); refine ⟨⟨P6.cell rfl, P6.cell rfl, P6.cell rfl⟩, ?_⟩); (try simp only [Act.put, List.setIfInBounds_toArray, List.set_cons_zero, List.set_cons_succ]))
          refine wpH_done (by kernel_rfl) ?_ _
          have hC := fun W => schk_any ((b - a + (d - e)) / 2) (1) 1 e W
          rw [show schk ((b - a + (d - e)) / 2) (1) 1 e = 0 from if_pos (by omega)] at hC
          go_wp2_with (first
            | (refine wpl_load (by rfl) 54 _ (by rfl) w4.heap.size (by rfl) 54 _ K6 _ Try.underlying54 rfl _ sizeSamp (by rfl) ?_)
            | (go_at_call 42; ((with_reducible refine (hC _).mono ?_); rintro r w7 ⟨rfl, b7⟩; (have K7 := K6.below b7 K6.lt); (have J7 := J6.below b7 J6.lt); (have B7 := B6.trans (b7.mono B6.size))))
            | (refine wpl_load (by rfl) 54 _ (by rfl) w4.heap.size (by rfl) 54 _ K7 _ Try.underlying54 rfl _ sizeSamp (by rfl) ?_)
            | (refine wpl_store (by rfl) 54 _ _ (by rfl) w1.heap.size (by rfl) _ (by rfl) _ rfl 54 _ J7 (by rfl) _ sizeSamp (by rfl) (by simp [Value.oneCell']) ?_; intro w8 J8 s8 g8))
          obtain ⟨c0, c1, c2, c3⟩ := cells4b J8
          refine bodyPost_ret (v := .tuple #[.agg (smL ((b - a + (d - e)) / 2) (1) 1 e).toArray, .int .i64 0]) (by simp [results, Try.results13, go_sem, c0, c1, c2, c3]) rfl ?_
          rw [hmx]
          exact ⟨rfl, B7.trans (g8.below B7.size (by omega))⟩
        · refine wp_alloc1 54 (by rfl) (.agg (smL 0 0 0 0).toArray) (smL 0 0 0 0) zeroSamp rfl ?_
          intro w4 K4 s4 b4
          have P4 := P3.drew.below b4 P3.lt
          have J4 := J3.drew.below b4 J3.lt
          have B4 : Below w.heap.size w w4 := ((b1.trans (b2.mono (by omega))).trans (b3.mono (by omega))).drew.trans (b4.mono (by show w.heap.size ≤ w3.heap.size; omega))
          have hH4 : (w4).cell? ⟨w.heap.size, 1, none⟩ = some (.int .i64 b) ∧ (w4).cell? ⟨w.heap.size, 2, none⟩ = some (.int .i64 d) ∧ (w4).cell? ⟨w.heap.size, 3, none⟩ = some (.int .i64 e) := ⟨P4.cell rfl, P4.cell rfl, P4.cell rfl⟩
          refine ⟨hH4, ?_⟩
          (try simp only [Act.put, List.setIfInBounds_toArray, List.set_cons_zero, List.set_cons_succ])
          (refine wpH_one (i := 13) (by simp only [List.getElem?_toArray, List.getElem?_cons_succ, List.getElem?_cons_zero]; rfl) (by kernel_rfl) (by rfl) ?_; (go_simp; (with_reducible refine (hG _).mono ?_); rintro r w5 ⟨rfl, b5⟩; (have K5 := K4.below b5 K4.lt); (have P5 := P4.below b5 P4.lt); (have J5 := J4.below b5 J4.lt); (have hH5 : (w5).cell? ⟨w.heap.size, 1, none⟩ = some (.int .i64 b) ∧ (w5).cell? ⟨w.heap.size, 2, none⟩ = some (.int .i64 d) ∧ (w5).cell? ⟨w.heap.size, 3, none⟩ = some (.int .i64 e) := ⟨P5.cell rfl, P5.cell rfl, P5.cell rfl⟩); refine ⟨hH5, ?_⟩); (try simp only [Act.put, List.setIfInBounds_toArray, List.set_cons_zero, List.set_cons_succ]))
          (refine wpH_take (i := 14) (v := _) (by simp only [List.getElem?_toArray, List.getElem?_cons_succ, List.getElem?_cons_zero]; rfl) (by kernel_rfl) (by kernel_rfl) (by kernel_rfl) (by intro _ _ _ h; exact h) (Or.inl ⟨by rfl, (by intro w' hSw; (try dsimp only at hSw); go_simp; first | done | with_reducible rfl)⟩) (by assumption) ?_; (try simp only [Act.put, List.setIfInBounds_toArray, List.set_cons_zero, List.set_cons_succ]))
          (refine wpH_take (i := 17) (v := _) (by simp only [List.getElem?_toArray, List.getElem?_cons_succ, List.getElem?_cons_zero]; rfl) (by kernel_rfl) (by kernel_rfl) (by kernel_rfl) (by intro _ _ _ h; exact h) (Or.inl ⟨by rfl, (by intro w' hSw; (try dsimp only at hSw); go_simp; first | done | with_reducible rfl)⟩) (by assumption) ?_; (try simp only [Act.put, List.setIfInBounds_toArray, List.set_cons_zero, List.set_cons_succ]))
          (refine wpH_one (i := 19) (by simp only [List.getElem?_toArray, List.getElem?_cons_succ, List.getElem?_cons_zero]; rfl) (by kernel_rfl) (by rfl) ?_; (refine wp_store1 54 _ _ (by rfl) w3.drew.heap.size (by rfl) _ (by rfl) (smL ((b - a + (d - e)) / 2) (1) 1 e) rfl 54 _ K5 rfl _ sizeSamp rfl (by simp [Value.oneCell']) ?_; intro w6 K6 s6 g6; (have P6 := P5.but g6 (Nat.ne_of_lt P3.lt)); (have J6 := J5.but g6 (Nat.ne_of_lt J3.lt)); (have B6 : Below w.heap.size w w6 := (B4.trans (b5.mono B4.size)).trans (g6.below (by have := B4.size; have := b5.size; omega) (by show w.heap.size ≤ w3.heap.size; omega))); refine ⟨⟨P6.cell rfl, P6.cell rfl, P6.cell rfl⟩, ?_⟩); (try simp only [Act.put, List.setIfInBounds_toArray, List.set_cons_zero, List.set_cons_succ]))
          refine wpH_done (by kernel_rfl) ?_ _
          have hC := fun W => schk_any ((b - a + (d - e)) / 2) (1) 1 e W
          rw [show schk ((b - a + (d - e)) / 2) (1) 1 e = 0 from if_pos (by omega)] at hC
          go_wp2_with (first
            | (refine wpl_load (by rfl) 54 _ (by rfl) w3.drew.heap.size (by rfl) 54 _ K6 _ Try.underlying54 rfl _ sizeSamp (by rfl) ?_)
            | (go_at_call 42; ((with_reducible refine (hC _).mono ?_); rintro r w7 ⟨rfl, b7⟩; (have K7 := K6.below b7 K6.lt); (have J7 := J6.below b7 J6.lt); (have B7 := B6.trans (b7.mono B6.size))))
            | (refine wpl_load (by rfl) 54 _ (by rfl) w3.drew.heap.size (by rfl) 54 _ K7 _ Try.underlying54 rfl _ sizeSamp (by rfl) ?_)
            | (refine wpl_store (by rfl) 54 _ _ (by rfl) w1.heap.size (by rfl) _ (by rfl) _ rfl 54 _ J7 (by rfl) _ sizeSamp (by rfl) (by simp [Value.oneCell']) ?_; intro w8 J8 s8 g8))
          obtain ⟨c0, c1, c2, c3⟩ := cells4b J8
          refine bodyPost_ret (v := .tuple #[.agg (smL ((b - a + (d - e)) / 2) (1) 1 e).toArray, .int .i64 0]) (by simp [results, Try.results13, go_sem, c0, c1, c2, c3]) rfl ?_
          rw [hmx]
          exact ⟨rfl, B7.trans (g8.below B7.size (by omega))⟩
end Go.Proofs.Ytdnmjeapihjabaa
