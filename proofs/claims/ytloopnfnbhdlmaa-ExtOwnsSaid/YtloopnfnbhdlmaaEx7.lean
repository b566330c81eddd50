/- awake of the laws on ext returns true. -/
import Derived.Test.YtloopnfnbhdlmaaEx6
import Derived.Test.YtloopnfnbhdlmaaRep
namespace Go.Proofs.Ytloopnfnbhdlmaa
open Go.RowKit
set_option linter.unusedSimpArgs false
set_option linter.unusedVariables false
set_option maxRecDepth 100000
theorem ex_flds : fldsB [(260, List.replicate 12 7)] = [1, 4, 0, 16] ++ List.replicate 12 7 := by decide
theorem ex_apx : apxE [(260, List.replicate 12 7)] = 0 := by decide
theorem ex_p12 : prs (List.replicate 12 (7 : Int)).length [] (List.replicate 12 7) = ([], List.replicate 12 7, 0) := by decide
theorem ex_p4 : prs (List.replicate 4 (7 : Int)).length [] (List.replicate 4 7) = ([], [], 5) := by decide
theorem ex_p16 : prs (List.replicate 16 (0 : Int)).length [] (List.replicate 16 0) = ([], [], 7) := by decide
theorem ex_auth : bytesB 4 1 ++ bytesB 8 2 = [0, 0, 0, 1, 0, 0, 0, 0, 0, 0, 0, 2] := by decide
theorem Xs.one {w : World} {g hi : Nat} {kd : Int} {A : Option Addr} {c : Nat} {dt : List Int} (h : Blk w g 27 [.int .i64 kd, .slice A dt.length c]) (hg : g < hi) (hb : Bs w 0 hi A dt) (h1 : dt.length ≤ c) (h2 : c ≤ 9223372036854775807) (h3 : A = none → dt.length = 0 ∧ c = 0) : Xs w hi (some ⟨g, 0, none⟩) [(kd, dt)] := fun _ =>
  ⟨g, 0, rfl, hg, fun k hk => by
    obtain rfl : k = 0 := by simp at hk; exact hk
    exact ⟨A, c, h.cell (i := 0) rfl, h.cell (i := 1) rfl, hb, h1, h2, h3⟩⟩
theorem bs_wide0 {w : World} {lo hi hi' : Nat} {A : Option Addr} {l : List Int} (h : Bs w lo hi A l) (h2 : hi ≤ hi') : Bs w 0 hi' A l := h.wide (Nat.zero_le _) h2
set_option maxHeartbeats 8000000 in
theorem awake_any (w : World) : Calls Try.prog 9 #[] w fun e w' => e = .returned (.bool true) ∧ Below w.heap.size w w' := by
  have hc0 : (w.alloc (.cells #[.int .u8 7] 5)).cell? ⟨w.heap.size, 0, none⟩ = some (.int .u8 7) := (Blk.new w 5 #[.int .u8 7] [.int .u8 7] rfl).cell rfl
  have hE := repeat7 w.heap.size 1 _ hc0
  obtain ⟨w0, hw0⟩ : ∃ w0, w.alloc (.cells #[.int .u8 7] 5) = w0 := ⟨_, rfl⟩
  have B0 : Below w.heap.size w w0 := by rw [← hw0]; exact (Below.refl _ _).alloc (Nat.le_refl _) _
  rw [hw0] at hE
  clear hc0
  have hmk : ∀ W : World, (Instr.makeSlice 22 (.int .i64 16) (.int .i64 16)).run Try.prog W = .ok (.slice (some ⟨W.heap.size, 0, none⟩) 16 16) (W.alloc (.cells (madeCells #[.int .u8 0] 16) 5)) := fun W => makeU8 .i64 .i64 16 (by omega) W
  go_enter Try.func9, Try.ntmps9
  go_wp2_with (go_at_call 22; ((with_reducible refine hE.mono ?_); rintro e w1 ⟨A, rfl, hD, b1⟩))
  have z1 := b1.size
  have J2 := Blk.new w1 27 #[.int .i64 260, .slice A 12 12] [.int .i64 260, .slice A 12 12] rfl
  obtain ⟨w2, hw2⟩ : ∃ w2, w1.alloc (.cells #[.int .i64 260, .slice A 12 12] 27) = w2 := ⟨_, rfl⟩
  have s2 : w1.heap.size < w2.heap.size := by rw [← hw2]; simp
  have B2 : Below w0.heap.size w0 w2 := by rw [← hw2]; exact b1.alloc z1 _
  have D2 : Bs w2 0 w2.heap.size A (List.replicate 12 7) := by rw [← hw2]; exact bs_wide0 (hD.alloc (Nat.le_refl _) _) (by simp)
  rw [hw2] at J2 ⊢
  have hX : Xs w2 w2.heap.size (some ⟨w1.heap.size, 0, none⟩) [(260, List.replicate 12 7)] := Xs.one J2 s2 D2 (by simp) (by omega) (fun h => by
    obtain ⟨_, _, e, _⟩ := D2.at (by simp)
    rw [h] at e; cases e)
  clear hw2 J2 hD b1 hE hw0
  have hE := xappend_ok none 0 0 0 0 [] (some ⟨w1.heap.size, 0, none⟩) 1 1 _ w2 rfl Bs.nil (Nat.zero_le _) (fun _ => ⟨rfl, rfl⟩) (by omega) rfl hX (Nat.le_refl _) (by omega) ex_apx
  rw [ex_flds] at hE
  with_reducible refine hE.mono ?_
  rintro e w3 ⟨A3, c3, N3, rfl, hN3, O3, b3⟩
  obtain rfl : N3 = 16 := by rw [← hN3]; decide
  have D3 := bs_wide0 (D2.below b3 (Nat.le_refl _)) b3.size
  have B3 := B2.trans (b3.mono B2.size)
  clear hE hX D2 b3 hN3 s2
  have hE := parse_any A 12 12 (List.replicate 12 7) w3 rfl D3 (by omega) (by omega) (by omega)
  rw [ex_p12] at hE
  go_wp2_with fail
  with_reducible refine hE.mono ?_
  rintro e w4 ⟨A4, c4, A5, c5, N4, N5, w4', rfl, hN4, hN5, X4, b4, b4', O5⟩
  obtain rfl : N4 = 0 := hN4.symm
  obtain rfl : N5 = 12 := hN5.symm
  have B4 := (b4.trans (b4'.mono b4.size))
  have D4 := bs_wide0 (D3.below B4 (Nat.le_refl _)) B4.size
  have O3' := O3.below B4 (Nat.le_refl _)
  have B4' := B3.trans (B4.mono B3.size)
  clear hE D3 O3 B3 X4 b4 b4' hN4 hN5 B4
  have hE := parse_any A 4 12 (List.replicate 4 7) w4 rfl (D4.take 4) (by omega) (by omega) (by omega)
  rw [ex_p4] at hE
  go_wp2_with fail
  with_reducible refine hE.mono ?_
  rintro e w5 ⟨A6, c6, A7, c7, N6, N7, w5', rfl, hN6, hN7, X6, b6, b6', O7⟩
  obtain rfl : N6 = 0 := hN6.symm
  obtain rfl : N7 = 0 := hN7.symm
  have B5 := (b6.trans (b6'.mono b6.size))
  have D5 := bs_wide0 (D4.below B5 (Nat.le_refl _)) B5.size
  have O3'' := O3'.below B5 (Nat.le_refl _)
  have O5' := O5.below B5 (Nat.le_refl _)
  have B5' := B4'.trans (B5.mono B4'.size)
  clear hE D4 O3' O5 B4' X6 b6 b6' hN6 hN7 B5 O7
  have M5 := Ow.made w5 16 (by omega)
  go_wp2_with fail
  obtain ⟨w6, hw6⟩ : ∃ w6, w5.alloc (.cells (madeCells #[.int .u8 0] 16) 5) = w6 := ⟨_, rfl⟩
  have s6 : w5.heap.size < w6.heap.size := by rw [← hw6]; simp
  have B6 : Below w5.heap.size w5 w6 := by rw [← hw6]; exact (Below.refl _ _).alloc (Nat.le_refl _) _
  rw [hw6] at M5 ⊢
  clear hw6
  have D6 := bs_wide0 (D5.below B6 (Nat.le_refl _)) B6.size
  have O3 := O3''.below B6 (Nat.le_refl _)
  have O5 := O5'.below B6 (Nat.le_refl _)
  have B6' := B5'.trans (B6.mono B5'.size)
  have hE := parse_any (some ⟨w5.heap.size, 0, none⟩) 16 16 (List.replicate 16 0) w6 rfl (bs_wide0 M5.bs (Nat.le_refl _)) (by omega) (by omega) (by omega)
  rw [ex_p16] at hE
  clear D5 O3'' O5' B5' B6
  with_reducible refine hE.mono ?_
  rintro e w7 ⟨A8, c8, A9, c9, N8, N9, w7', rfl, hN8, hN9, X8, b8, b8', O9⟩
  obtain rfl : N8 = 0 := hN8.symm
  obtain rfl : N9 = 0 := hN9.symm
  have B7 := (b8.trans (b8'.mono b8.size))
  have D7 := bs_wide0 (D6.below B7 (Nat.le_refl _)) B7.size
  have O3b := O3.below B7 (Nat.le_refl _)
  have O5b := O5.below B7 (Nat.le_refl _)
  have B7' := B6'.trans (B7.mono B6'.size)
  clear hE D6 O3 O5 B6' X8 b8 b8' hN8 hN9 B7 O9 M5 s6
  have L7 := Ow.lit w7 [1, 4, 0, 16] #[.int .u8 1, .int .u8 4, .int .u8 0, .int .u8 16] rfl (by decide) (by simp)
  have D8 := D7.alloc (Nat.le_refl _) (.cells #[.int .u8 1, .int .u8 4, .int .u8 0, .int .u8 16] 5)
  go_wp2_with (first
    | (at_builtin; refine wpList_append_bs rfl (.tmp 42) (.tmp 43) rfl 4 4 12 12 (by rfl) (by rfl) rfl rfl L7 D8 (by omega) (by simp) ?_; intro A10 c10 w8 O10 b10 _))
  have B8 : Below w7.heap.size w7 w8 := ((Below.refl _ _).alloc (Nat.le_refl _) _).trans b10
  have O3c := O3b.below B8 (Nat.le_refl _)
  have O5c := O5b.below B8 (Nat.le_refl _)
  have D8' := D7.below B8 (Nat.le_refl _)
  have B8' := B7'.trans (B8.mono B7'.size)
  have hE := bequal_any A3 A10 16 16 c3 c10 _ _ _ _ ([1, 4, 0, 16] ++ List.replicate 12 7) ([1, 4, 0, 16] ++ List.replicate 12 7) w8 rfl rfl O3c.bs O10.bs
  have hE2 := bequal_any A5 A 12 12 c5 12 _ _ _ _ (List.replicate 12 7) (List.replicate 12 7) w8 rfl rfl O5c.bs D8'
  have hE3 := auth_any 1 2 w8 (by omega) (by omega) (by omega) (by omega)
  rw [eqB_self] at hE hE2
  rw [ex_auth] at hE3
  clear D7 O3b O5b B7' L7 D8 b10
  go_wp2_with (first
    | (go_at_call 14; ((with_reducible refine hE.mono ?_); rintro e w' ⟨rfl, rfl⟩))
    | (go_at_call 14; ((with_reducible refine hE2.mono ?_); rintro e w' ⟨rfl, rfl⟩))
    | (go_at_call 18; ((with_reducible refine hE3.mono ?_); rintro e w9 ⟨A11, c11, rfl, O11, b11⟩; (have L9 := Ow.lit w9 [0, 0, 0, 1, 0, 0, 0, 0, 0, 0, 0, 2] #[.int .u8 0, .int .u8 0, .int .u8 0, .int .u8 1, .int .u8 0, .int .u8 0, .int .u8 0, .int .u8 0, .int .u8 0, .int .u8 0, .int .u8 0, .int .u8 2] rfl (by decide) (by simp)); (have O12 := O11.alloc (.cells #[.int .u8 0, .int .u8 0, .int .u8 0, .int .u8 1, .int .u8 0, .int .u8 0, .int .u8 0, .int .u8 0, .int .u8 0, .int .u8 0, .int .u8 0, .int .u8 2] 5)); (have hE4 := bequal_any A11 (some ⟨w9.heap.size, 0, none⟩) 12 12 c11 12 _ _ _ _ [0, 0, 0, 1, 0, 0, 0, 0, 0, 0, 0, 2] [0, 0, 0, 1, 0, 0, 0, 0, 0, 0, 0, 2] _ rfl rfl O12.bs L9.bs); rw [eqB_self] at hE4))
    | (go_at_call 14; ((with_reducible refine hE4.mono ?_); rintro e w' ⟨rfl, rfl⟩)))
  go_ret
  have B9 := B8'.trans (b11.mono B8'.size)
  exact ⟨rfl, B0.trans ((B9.alloc (by have := B9.size; omega) _).mono B0.size)⟩
end Go.Proofs.Ytloopnfnbhdlmaa
