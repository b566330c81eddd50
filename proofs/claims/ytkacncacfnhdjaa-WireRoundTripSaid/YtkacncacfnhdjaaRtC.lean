/- WireRoundTrip (P2, the layer's theorem): for every input the law returns true, and its arguments read afterwards as before. No condition. -/
import Derived.Test.YtkacncacfnhdjaaRtB
import Derived.Test.YtkacncacfnhdjaaDet
import Derived.Test.YtkacncacfnhdjaaOpen
namespace Go.Proofs.Ytkacncacfnhdjaa
open Go.ChangeShapes Go.WideShapes Go.ChangeAt Go.RowKit Go.Joins
set_option linter.unusedSimpArgs false
set_option linter.unusedVariables false
set_option maxRecDepth 100000
theorem but_drewq {g : Nat} {a b : World} (h : But g a b) : But g a b.drew := ⟨h.os, h.tape, h.output, h.size, h.block⟩
set_option maxHeartbeats 4000000 in
theorem roundLaw (A : Option Addr) (n c : Nat) (X Y : Nat → Int) (w : World) (hP : Pq w w.heap.size A n X Y) (hXY : ∀ k, k < n → U64q (X k) ∧ I64q (Y k)) (hnc : n ≤ c) (hc : c ≤ 9223372036854775807) (hA : A = none → n = 0 ∧ c = 0) :
    Calls Try.prog 3 #[.slice A n c] w fun e w' => e = .returned (.bool true) ∧ Below w.heap.size w w' := by
  obtain ⟨m, hm⟩ : ∃ m, m = min n 200 := ⟨_, rfl⟩
  have hm2 : m ≤ 200 := by omega
  have hmn : m ≤ n := by omega
  have hmi : min (n : Int) 200 = (m : Int) := by omega
  have hmc : (m : Int) ≤ c := by omega
  have hm0 : (0 : Int) ≤ m := by omega
  have hXY' : ∀ k, k < m → U64q (X k) ∧ I64q (Y k) := fun k hk => hXY k (by omega)
  have hC := fclone_any A m c w.heap.size X Y w (hP.less hmn) (Nat.le_refl _) hm2 (fun h => ⟨by have := (hA h).1; omega, (hA h).2⟩)
  clear hP hXY hA
  go_enter Try.func3, Try.ntmps3
  go_wp2_with fail
  all_goals (first | rw [show (200 : Nat) = m by omega] | rw [show n = m by omega])
  all_goals
    clear hm
    with_reducible refine hC.mono ?_
    rintro e w1 ⟨A1, c1, rfl, P1, B1⟩
    have z1 := B1.size
    clear hC
    go_wp2
    have P1' : ∀ g, A1 = some ⟨g, 0, none⟩ → 0 < m → g < w1.heap.size := fun g hg hm => by obtain ⟨g', e', _, h', _⟩ := P1 hm; rw [hg] at e'; injection e' with e'; injection e' with e'; omega
    go_loopw [3, 21] (fun bv i wr => ∃ k : Nat, k ≤ m ∧ i = .int .i64 k ∧ RtR wr w w1.heap.size A1 m X Y k bv) (fun _ i _ => m - (intOf i).toNat)
    case atStart => exact ⟨0, by omega, rfl, none, rfl, Bs.nil, by rw [mX_zero, mY_zero]; exact P1, B1, Nat.le_refl _⟩
    case round =>
      obtain ⟨k, hk, rfl, B, rfl, hB, hW, B2, z2⟩ := hrel
      by_cases hlt : k < m
      · obtain ⟨g, rfl, hg1, hg2, hf, hc⟩ := hW (by omega)
        have hg3 := P1' g rfl (by omega)
        have hkI : (k : Int) < m := by omega
        have hk0 : (0 : Int) ≤ k := by omega
        obtain ⟨hx, hy⟩ := hXY' k hlt
        obtain ⟨s1, s8⟩ := sq_rng (Y k)
        have sI1 : (1 : Int) ≤ sq (Y k) := by omega
        have sI8 : (sq (Y k) : Int) ≤ 8 := by omega
        have e1 := sq_eq (Y k)
        obtain ⟨q0, q1⟩ := hc k hlt
        simp only [Nat.zero_add] at q0 q1
        rw [show mX X Y k k = X k by simp [mX]] at q0
        rw [show mY Y k k = Y k by simp [mY]] at q1
        go_wp2_with fail
        obtain ⟨w2, hw2⟩ : ∃ w2, w2 = wr.setCell ⟨g, k * 2 + 1, none⟩ (.int .i64 (sq (Y k))) := ⟨_, rfl⟩
        have C2 : Pc w2 g 0 m (mX X Y k) (mY Y (k + 1)) := by rw [hw2, mY_step]; exact hc.setY hlt _
        have F2 : ∀ j, w2.frozen? ⟨g, j, none⟩ = false := fun j => by rw [hw2]; simpa using hf j
        have G2 : But g wr w2 := by rw [hw2]; exact but_setCell _ _ _ _
        rw [← hw2]
        clear hw2 hc hf q0 q1 e1
        obtain ⟨q0, q1⟩ := C2 k hlt
        simp only [Nat.zero_add] at q0 q1
        rw [show mX X Y k k = X k by simp [mX]] at q0
        rw [show mY Y (k + 1) k = sq (Y k) by simp [mY]] at q1
        have e2 : IntKind.i64.wrap (8 * (sq (Y k) : Int)) = 8 * sq (Y k) := IntWalk.i64_in _ (by omega)
        have e3 : IntKind.i64.wrap (64 - 8 * (sq (Y k) : Int)) = 64 - 8 * sq (Y k) := IntWalk.i64_in _ (by omega)
        have e4 : (64 - 8 * (sq (Y k) : Int)).toNat = 64 - 8 * sq (Y k) := by omega
        have e5 : decide ((64 - 8 * (sq (Y k) : Int)) < 0) = false := decide_eq_false (by omega)
        go_region
        obtain ⟨w3, hw3⟩ : ∃ w3, w3 = (w2.setCell ⟨g, k * 2, none⟩ (.int .u64 (X k / 2 ^ (64 - 8 * sq (Y k))))).drew := ⟨_, rfl⟩
        have C3 : Pc w3 g 0 m (mX X Y (k + 1)) (mY Y (k + 1)) := by rw [hw3, mX_step]; exact (C2.setX hlt _).drew
        have F3 : ∀ j, w3.frozen? ⟨g, j, none⟩ = false := fun j => by rw [hw3]; simpa using F2 j
        have G3 : But g wr w3 := by rw [hw3]; exact but_drewq (G2.trans (but_setCell _ _ _ _))
        rw [← hw3]
        clear hw3 C2 F2 G2 q0 q1 e2 e3 e4 e5
        obtain ⟨q0, q1⟩ := C3 k hlt
        simp only [Nat.zero_add] at q0 q1
        rw [show mX X Y (k + 1) k = nq (X k) (Y k) by simp [mX]] at q0
        rw [show mY Y (k + 1) k = sq (Y k) by simp [mY]] at q1
        have B3 := B2.trans (G3.below B2.size hg1)
        have z3 := G3.size
        have hB3 := hB.grown G3 (Nat.le_refl _) (by intro r hr; injection hr with hr; omega)
        have n1 := nq_rng (Y k) hx
        have hlq := lq_le Y k
        have hg4 : g < w3.drew.heap.size := by show g < w3.heap.size; omega
        have hE := append_ok B (lq Y k) (lq Y k) w1.heap.size wr.heap.size (bq X Y k) (nq (X k) (Y k)) (sq (Y k)) w3.drew (bq_len X Y k) hB3.drew z3 (by omega) ⟨n1.1, n1.2.2⟩ s1 s8 n1.2.1
        go_wp2_with fail
        refine wp_region_heldL (fun y => y.cell? ⟨g, k * 2, none⟩ = some (.int .u64 (nq (X k) (Y k))) ∧ y.cell? ⟨g, k * 2 + 1, none⟩ = some (.int .i64 (sq (Y k)))) 17 (by kernel_rfl) rfl ⟨q0, q1⟩ fun hHeld => ?_
        simp only [List.replicate]
        (refine wpH_take (i := 0) (v := _) (by simp only [List.getElem?_toArray, List.getElem?_cons_succ, List.getElem?_cons_zero]; rfl) (by kernel_rfl) (by kernel_rfl) (by kernel_rfl) (by intro _ _ _ h; exact h) (Or.inl ⟨by rfl, (by intro w' hSw; (try dsimp only at hSw); go_simp; first | done | with_reducible rfl)⟩) (by assumption) ?_; (try simp only [Act.put, List.setIfInBounds_toArray, List.set_cons_zero, List.set_cons_succ]))
        (refine wpH_take (i := 1) (v := _) (by simp only [List.getElem?_toArray, List.getElem?_cons_succ, List.getElem?_cons_zero]; rfl) (by kernel_rfl) (by kernel_rfl) (by kernel_rfl) (by intro _ _ _ h; exact h) (Or.inl ⟨by rfl, (by intro w' hSw; (try dsimp only at hSw); go_simp; first | done | with_reducible rfl)⟩) (by assumption) ?_; (try simp only [Act.put, List.setIfInBounds_toArray, List.set_cons_zero, List.set_cons_succ]))
        (refine wpH_take (i := 2) (v := _) (by simp only [List.getElem?_toArray, List.getElem?_cons_succ, List.getElem?_cons_zero]; rfl) (by kernel_rfl) (by kernel_rfl) (by kernel_rfl) (by intro _ _ _ h; exact h) (Or.inl ⟨by rfl, (by intro w' hSw; (try dsimp only at hSw); go_simp; first | done | with_reducible rfl)⟩) (by assumption) ?_; (try simp only [Act.put, List.setIfInBounds_toArray, List.set_cons_zero, List.set_cons_succ]))
        (refine wpH_take (i := 3) (v := _) (by simp only [List.getElem?_toArray, List.getElem?_cons_succ, List.getElem?_cons_zero]; rfl) (by kernel_rfl) (by kernel_rfl) (by kernel_rfl) (by intro _ _ _ h; exact h) (Or.inl ⟨by rfl, (by intro w' hSw; (try dsimp only at hSw); go_simp; first | done | with_reducible rfl)⟩) (by assumption) ?_; (try simp only [Act.put, List.setIfInBounds_toArray, List.set_cons_zero, List.set_cons_succ]))
        (refine wpH_take (i := 4) (v := _) (by simp only [List.getElem?_toArray, List.getElem?_cons_succ, List.getElem?_cons_zero]; rfl) (by kernel_rfl) (by kernel_rfl) (by kernel_rfl) (by intro _ _ _ h; exact h) (Or.inl ⟨by rfl, (by intro w' hSw; (try dsimp only at hSw); go_simp; first | done | with_reducible rfl)⟩) (by assumption) ?_; (try simp only [Act.put, List.setIfInBounds_toArray, List.set_cons_zero, List.set_cons_succ]))
        (refine wpH_take (i := 5) (v := _) (by simp only [List.getElem?_toArray, List.getElem?_cons_succ, List.getElem?_cons_zero]; rfl) (by kernel_rfl) (by kernel_rfl) (by kernel_rfl) (by intro _ _ _ h; exact h) (Or.inl ⟨by rfl, (by intro w' hSw; (try dsimp only at hSw); go_simp; first | done | with_reducible rfl)⟩) (by assumption) ?_; (try simp only [Act.put, List.setIfInBounds_toArray, List.set_cons_zero, List.set_cons_succ]))
        (refine wpH_take (i := 6) (v := _) (by simp only [List.getElem?_toArray, List.getElem?_cons_succ, List.getElem?_cons_zero]; rfl) (by kernel_rfl) (by kernel_rfl) (by kernel_rfl) (by intro _ _ _ h; exact h) (Or.inl ⟨by rfl, (by intro w' hSw; (try dsimp only at hSw); go_simp; first | done | with_reducible rfl)⟩) (by assumption) ?_; (try simp only [Act.put, List.setIfInBounds_toArray, List.set_cons_zero, List.set_cons_succ]))
        (refine wpH_take (i := 7) (v := _) (by simp only [List.getElem?_toArray, List.getElem?_cons_succ, List.getElem?_cons_zero]; rfl) (by kernel_rfl) (by kernel_rfl) (by kernel_rfl) (by intro _ _ _ h; exact h) (Or.inl ⟨by rfl, (by intro w' hSw; (try dsimp only at hSw); go_simp; first | done | with_reducible rfl)⟩) (by assumption) ?_; (try simp only [Act.put, List.setIfInBounds_toArray, List.set_cons_zero, List.set_cons_succ]))
        (refine wpH_take (i := 8) (v := _) (by simp only [List.getElem?_toArray, List.getElem?_cons_succ, List.getElem?_cons_zero]; rfl) (by kernel_rfl) (by kernel_rfl) (by kernel_rfl) (by intro _ _ _ h; exact h) (Or.inl ⟨by rfl, (by intro w' hSw; (try dsimp only at hSw); go_simp; first | done | with_reducible rfl)⟩) (by assumption) ?_; (try simp only [Act.put, List.setIfInBounds_toArray, List.set_cons_zero, List.set_cons_succ]))
        (refine wpH_take (i := 9) (v := _) (by simp only [List.getElem?_toArray, List.getElem?_cons_succ, List.getElem?_cons_zero]; rfl) (by kernel_rfl) (by kernel_rfl) (by kernel_rfl) (by intro _ _ _ h; exact h) (Or.inl ⟨by rfl, (by intro w' hSw; (try dsimp only at hSw); go_simp; first | done | with_reducible rfl)⟩) (by assumption) ?_; (try simp only [Act.put, List.setIfInBounds_toArray, List.set_cons_zero, List.set_cons_succ]))
        (refine wpH_take (i := 10) (v := _) (by simp only [List.getElem?_toArray, List.getElem?_cons_succ, List.getElem?_cons_zero]; rfl) (by kernel_rfl) (by kernel_rfl) (by kernel_rfl) (by intro _ _ _ h; exact h) (Or.inl ⟨by rfl, (by intro w' hSw; (try dsimp only at hSw); go_simp; first | done | with_reducible rfl)⟩) (by assumption) ?_; (try simp only [Act.put, List.setIfInBounds_toArray, List.set_cons_zero, List.set_cons_succ]))
        (refine wpH_one (i := 11) (by simp only [List.getElem?_toArray, List.getElem?_cons_succ, List.getElem?_cons_zero]; rfl) (by kernel_rfl) (by rfl) ?_; (go_simp; (with_reducible refine hE.mono ?_); rintro e w4 ⟨rfl, hO4, hz4, hb4⟩; refine ⟨⟨(hb4.cell hg4).trans q0, (hb4.cell hg4).trans q1⟩, ?_⟩); (try simp only [Act.put, List.setIfInBounds_toArray, List.set_cons_zero, List.set_cons_succ]))
        have hS4 : w4.cell? ⟨g, k * 2, none⟩ = some (.int .u64 (nq (X k) (Y k))) ∧ w4.cell? ⟨g, k * 2 + 1, none⟩ = some (.int .i64 (sq (Y k))) := ⟨(hb4.cell hg4).trans q0, (hb4.cell hg4).trans q1⟩
        (refine wpH_take (i := 12) (v := _) (by simp only [List.getElem?_toArray, List.getElem?_cons_succ, List.getElem?_cons_zero]; rfl) (by kernel_rfl) (by kernel_rfl) (by kernel_rfl) (by intro _ _ _ h; exact h) (Or.inl ⟨by rfl, (by intro w' hSw; (try dsimp only at hSw); go_simp; first | done | with_reducible rfl)⟩) (by assumption) ?_; (try simp only [Act.put, List.setIfInBounds_toArray, List.set_cons_zero, List.set_cons_succ]))
        (refine wpH_take (i := 13) (v := _) (by simp only [List.getElem?_toArray, List.getElem?_cons_succ, List.getElem?_cons_zero]; rfl) (by kernel_rfl) (by kernel_rfl) (by kernel_rfl) (by intro _ _ _ h; exact h) (Or.inl ⟨by rfl, (by intro w' hSw; (try dsimp only at hSw); go_simp; first | done | with_reducible rfl)⟩) (by assumption) ?_; (try simp only [Act.put, List.setIfInBounds_toArray, List.set_cons_zero, List.set_cons_succ]))
        (refine wpH_take (i := 14) (v := _) (by simp only [List.getElem?_toArray, List.getElem?_cons_succ, List.getElem?_cons_zero]; rfl) (by kernel_rfl) (by kernel_rfl) (by kernel_rfl) (by intro _ _ _ h; exact h) (Or.inl ⟨by rfl, (by intro w' hSw; (try dsimp only at hSw); go_simp; first | done | with_reducible rfl)⟩) (by assumption) ?_; (try simp only [Act.put, List.setIfInBounds_toArray, List.set_cons_zero, List.set_cons_succ]))
        (refine wpH_take (i := 15) (v := _) (by simp only [List.getElem?_toArray, List.getElem?_cons_succ, List.getElem?_cons_zero]; rfl) (by kernel_rfl) (by kernel_rfl) (by kernel_rfl) (by intro _ _ _ h; exact h) (Or.inl ⟨by rfl, (by intro w' hSw; (try dsimp only at hSw); go_simp; first | done | with_reducible rfl)⟩) (by assumption) ?_; (try simp only [Act.put, List.setIfInBounds_toArray, List.set_cons_zero, List.set_cons_succ]))
        (refine wpH_take (i := 16) (v := _) (by simp only [List.getElem?_toArray, List.getElem?_cons_succ, List.getElem?_cons_zero]; rfl) (by kernel_rfl) (by kernel_rfl) (by kernel_rfl) (by intro _ _ _ h; exact h) (Or.inl ⟨by rfl, (by intro w' hSw; (try dsimp only at hSw); go_simp; first | done | with_reducible rfl)⟩) (by assumption) ?_; (try simp only [Act.put, List.setIfInBounds_toArray, List.set_cons_zero, List.set_cons_succ]))
        refine wpH_done (by kernel_rfl) ?_ _
        obtain ⟨q2, q3⟩ := hS4
        have B4 : Below w.heap.size w w4 := B3.drew.trans (hb4.mono B3.size)
        have C4 := C3.drew.below hb4 hg4
        have F4 : ∀ j, w4.frozen? ⟨g, j, none⟩ = false := fun j => (hb4.frozen hg4).trans (F3 j)
        have z4 : w3.heap.size ≤ w4.heap.size := hb4.size
        have hS4 := hO4.bs.wide (show w1.heap.size ≤ w3.drew.heap.size by show w1.heap.size ≤ w3.heap.size; omega) (Nat.le_refl _)
        clear hE hO4 hz4 hb4 hHeld C3 F3 G3 hB3 B3 q0 q1 hg4
        have e6 : IntKind.i64.wrap ((lq Y k : Int) + sq (Y k)) = lq Y k + sq (Y k) := IntWalk.i64_in _ (by omega)
        go_wp2_with fail
        exact ⟨⟨k + 1, by omega, by go_num, _, rfl, hS4, fun _ => ⟨g, rfl, hg1, by omega, F4, C4⟩, B4, by omega⟩, by simp [intOf]; omega⟩
      · have e : m = k := by omega
        subst e
        clear hk hlt P1 B1
        have hlq := lq_le Y m
        have hln := bq_len X Y m
        have hE := newReader_any B (lq Y m) (lq Y m) w1.heap.size wr.heap.size (bq X Y m) wr hln hB (Nat.le_refl _) (by omega)
        go_wp2_with fail
        with_reducible refine hE.mono ?_
        rintro e w3 ⟨g', rfl, hR, hgz, hb3⟩
        have hlo : wr.heap.size ≤ g' := by obtain ⟨_, _, _, _, _, _, _, _, h, _⟩ := hR; exact h
        have z3 := hb3.size
        have hB3 := hB.below hb3 (Nat.le_refl _)
        have B3 := B2.trans (hb3.mono B2.size)
        have W3 : Pw w3 w.heap.size A1 m (mX X Y m) (mY Y m) := fun hm => by
          obtain ⟨g, hg, h1, h2, h3, h4⟩ := hW hm
          exact ⟨g, hg, h1, by omega, fun j => (hb3.frozen h2).trans (h3 j), h4.below hb3 h2⟩
        have G3 : ∀ g, A1 = some ⟨g, 0, none⟩ → 0 < m → g < w1.heap.size := P1'
        clear hE hW hB B2 hb3 P1'
        obtain ⟨wo, rfl⟩ : ∃ wo : World, wo = wr := ⟨wr, rfl⟩
        go_wp2
        go_loopw [8, 90] (fun av i wr => ∃ k : Nat, k ≤ m ∧ i = .int .i64 k ∧ av = .int .i64 (lq Y k) ∧ Rd wr wo.heap.size g' ((bq X Y m).drop (lq Y k)) 0 ∧ Bs wr w1.heap.size wo.heap.size B (bq X Y m) ∧ Pw wr w.heap.size A1 m (mX X Y m) (mY Y m) ∧ Below w.heap.size w wr ∧ wo.heap.size ≤ wr.heap.size) (fun _ i _ => m - (intOf i).toNat)
        case atStart => exact ⟨0, by omega, rfl, rfl, hR, hB3, W3, B3, z3⟩
        case round =>
          obtain ⟨k, hk, rfl, rfl, hRt, hBt, hWt, B4, z4⟩ := hrel
          clear hR hB3 W3 B3 hgz z3
          by_cases hlt : k < m
          · obtain ⟨g, rfl, hg1, hg2, hf, hc⟩ := hWt (by omega)
            have hg3 := G3 g rfl (by omega)
            have hkI : (k : Int) < m := by omega
            have hk0 : (0 : Int) ≤ k := by omega
            obtain ⟨hx, hy⟩ := hXY' k hlt
            obtain ⟨s1, s8⟩ := sq_rng (Y k)
            obtain ⟨q0, q1⟩ := hc k hlt
            simp only [Nat.zero_add] at q0 q1
            rw [show mX X Y m k = nq (X k) (Y k) by simp [mX, hlt]] at q0
            rw [show mY Y m k = sq (Y k) by simp [mY, hlt]] at q1
            have hlk := lq_le Y k
            have hgl := hRt.lt
            obtain ⟨w0, hw0⟩ : ∃ w0, w0 = wr.alloc (.cells #[.int .u64 (nq (X k) (Y k)), .int .i64 (sq (Y k))] 26) := ⟨_, rfl⟩
            have D0 : Blk w0 wr.heap.size 26 [.int .u64 (nq (X k) (Y k)), .int .i64 (sq (Y k))] := by rw [hw0]; exact Blk.new wr _ _ _ rfl
            have hb0 : Below wr.heap.size wr w0 := by rw [hw0]; exact (Below.refl _ wr).alloc (Nat.le_refl _) _
            have B5 := B4.trans (hb0.mono B4.size)
            have R5 := hRt.below hb0 hgl
            have hB5 := hBt.below hb0 z4
            have W5 : Pw w0 w.heap.size (some ⟨g, 0, none⟩) m (mX X Y m) (mY Y m) := fun _ => ⟨g, rfl, hg1, by have := hb0.size; omega, fun j => (hb0.frozen hg2).trans (hf j), hc.below hb0 hg2⟩
            have z5 := hb0.size
            have k0 : w0.cell? ⟨wr.heap.size, 0, none⟩ = some (.int .u64 (nq (X k) (Y k))) := D0.cell rfl
            have k1 : w0.cell? ⟨wr.heap.size, 1, none⟩ = some (.int .i64 (sq (Y k))) := D0.cell rfl
            have hw0' := hw0.symm
            have hG := get_any B (lq Y m) (lq Y m) w1.heap.size wo.heap.size (bq X Y m) (lq Y k) (sq (Y k)) w0 hln hB5 (Nat.le_refl _) (by omega) (by omega)
            rw [rt_get X Y hlt hx] at hG
            clear hw0 hb0 hf hc hRt hBt hWt B4
            go_wp2_with ((go_at_call 7; ((with_reducible refine (hG).mono ?_); rintro e w1 ⟨rfl, rfl⟩)))
            obtain ⟨t1, t2, t3⟩ := rt_tk X Y hlt hx
            have hU := uint_any wo.heap.size g' ((bq X Y m).drop (lq Y k)) 0 (sq (Y k)) w0.drew (show Rd w0.drew wo.heap.size g' ((bq X Y m).drop (lq Y k)) 0 from R5)
            rw [t1, t2, t3] at hU
            have hne : wr.heap.size ≠ g' := by omega
            clear hG t1 t2 t3 hw0'
            refine wp_region_heldL (fun y => y.cell? ⟨wr.heap.size, 0, none⟩ = some (.int .u64 (nq (X k) (Y k))) ∧ y.cell? ⟨wr.heap.size, 1, none⟩ = some (.int .i64 (sq (Y k)))) 17 (by kernel_rfl) rfl ⟨k0, k1⟩ fun hHeld => ?_
            simp only [List.replicate]
            (refine wpH_take (i := 0) (v := _) (by simp only [List.getElem?_toArray, List.getElem?_cons_succ, List.getElem?_cons_zero]; rfl) (by kernel_rfl) (by kernel_rfl) (by kernel_rfl) (by intro _ _ _ h; exact h) (Or.inl ⟨by rfl, (by intro w' hSw; (try dsimp only at hSw); go_simp; first | done | with_reducible rfl)⟩) (by assumption) ?_; (try simp only [Act.put, List.setIfInBounds_toArray, List.set_cons_zero, List.set_cons_succ]))
            (refine wpH_take (i := 1) (v := _) (by simp only [List.getElem?_toArray, List.getElem?_cons_succ, List.getElem?_cons_zero]; rfl) (by kernel_rfl) (by kernel_rfl) (by kernel_rfl) (by intro _ _ _ h; exact h) (Or.inl ⟨by rfl, (by intro w' hSw; (try dsimp only at hSw); go_simp; first | done | with_reducible rfl)⟩) (by assumption) ?_; (try simp only [Act.put, List.setIfInBounds_toArray, List.set_cons_zero, List.set_cons_succ]))
            (refine wpH_take (i := 2) (v := _) (by simp only [List.getElem?_toArray, List.getElem?_cons_succ, List.getElem?_cons_zero]; rfl) (by kernel_rfl) (by kernel_rfl) (by kernel_rfl) (by intro _ _ _ h; exact h) (Or.inl ⟨by rfl, (by intro w' hSw; (try dsimp only at hSw); go_simp; first | done | with_reducible rfl)⟩) (by assumption) ?_; (try simp only [Act.put, List.setIfInBounds_toArray, List.set_cons_zero, List.set_cons_succ]))
            (refine wpH_take (i := 4) (v := _) (by simp only [List.getElem?_toArray, List.getElem?_cons_succ, List.getElem?_cons_zero]; rfl) (by kernel_rfl) (by kernel_rfl) (by kernel_rfl) (by intro _ _ _ h; exact h) (Or.inl ⟨by rfl, (by intro w' hSw; (try dsimp only at hSw); go_simp; first | done | with_reducible rfl)⟩) (by assumption) ?_; (try simp only [Act.put, List.setIfInBounds_toArray, List.set_cons_zero, List.set_cons_succ]))
            (refine wpH_take (i := 5) (v := _) (by simp only [List.getElem?_toArray, List.getElem?_cons_succ, List.getElem?_cons_zero]; rfl) (by kernel_rfl) (by kernel_rfl) (by kernel_rfl) (by intro _ _ _ h; exact h) (Or.inl ⟨by rfl, (by intro w' hSw; (try dsimp only at hSw); go_simp; first | done | with_reducible rfl)⟩) (by assumption) ?_; (try simp only [Act.put, List.setIfInBounds_toArray, List.set_cons_zero, List.set_cons_succ]))
            (refine wpH_one (i := 3) (by simp only [List.getElem?_toArray, List.getElem?_cons_succ, List.getElem?_cons_zero]; rfl) (by kernel_rfl) (by rfl) ?_; (go_simp; (with_reducible refine hU.mono ?_); rintro e w5 ⟨rfl, R6, g6, z6⟩; refine ⟨⟨(D0.drew.but g6 hne).cell rfl, (D0.drew.but g6 hne).cell rfl⟩, ?_⟩); (try simp only [Act.put, List.setIfInBounds_toArray, List.set_cons_zero, List.set_cons_succ]))
            have hS6 : w5.cell? ⟨wr.heap.size, 0, none⟩ = some (.int .u64 (nq (X k) (Y k))) ∧ w5.cell? ⟨wr.heap.size, 1, none⟩ = some (.int .i64 (sq (Y k))) := ⟨(D0.drew.but g6 hne).cell rfl, (D0.drew.but g6 hne).cell rfl⟩
            (refine wpH_take (i := 6) (v := _) (by simp only [List.getElem?_toArray, List.getElem?_cons_succ, List.getElem?_cons_zero]; rfl) (by kernel_rfl) (by kernel_rfl) (by kernel_rfl) (by intro _ _ _ h; exact h) (Or.inl ⟨by rfl, (by intro w' hSw; (try dsimp only at hSw); go_simp; first | done | with_reducible rfl)⟩) (by assumption) ?_; (try simp only [Act.put, List.setIfInBounds_toArray, List.set_cons_zero, List.set_cons_succ]))
            (refine wpH_take (i := 7) (v := _) (by simp only [List.getElem?_toArray, List.getElem?_cons_succ, List.getElem?_cons_zero]; rfl) (by kernel_rfl) (by kernel_rfl) (by kernel_rfl) (by intro _ _ _ h; exact h) (Or.inl ⟨by rfl, (by intro w' hSw; (try dsimp only at hSw); go_simp; first | done | with_reducible rfl)⟩) (by assumption) ?_; (try simp only [Act.put, List.setIfInBounds_toArray, List.set_cons_zero, List.set_cons_succ]))
            (refine wpH_take (i := 8) (v := _) (by simp only [List.getElem?_toArray, List.getElem?_cons_succ, List.getElem?_cons_zero]; rfl) (by kernel_rfl) (by kernel_rfl) (by kernel_rfl) (by intro _ _ _ h; exact h) (Or.inl ⟨by rfl, (by intro w' hSw; (try dsimp only at hSw); go_simp; first | done | with_reducible rfl)⟩) (by assumption) ?_; (try simp only [Act.put, List.setIfInBounds_toArray, List.set_cons_zero, List.set_cons_succ]))
            (refine wpH_take (i := 9) (v := _) (by simp only [List.getElem?_toArray, List.getElem?_cons_succ, List.getElem?_cons_zero]; rfl) (by kernel_rfl) (by kernel_rfl) (by kernel_rfl) (by intro _ _ _ h; exact h) (Or.inl ⟨by rfl, (by intro w' hSw; (try dsimp only at hSw); go_simp; first | done | with_reducible rfl)⟩) (by assumption) ?_; (try simp only [Act.put, List.setIfInBounds_toArray, List.set_cons_zero, List.set_cons_succ]))
            (refine wpH_take (i := 10) (v := _) (by simp only [List.getElem?_toArray, List.getElem?_cons_succ, List.getElem?_cons_zero]; rfl) (by kernel_rfl) (by kernel_rfl) (by kernel_rfl) (by intro _ _ _ h; exact h) (Or.inl ⟨by rfl, (by intro w' hSw; (try dsimp only at hSw); go_simp; first | done | with_reducible rfl)⟩) (by assumption) ?_; (try simp only [Act.put, List.setIfInBounds_toArray, List.set_cons_zero, List.set_cons_succ]))
            (refine wpH_take (i := 11) (v := _) (by simp only [List.getElem?_toArray, List.getElem?_cons_succ, List.getElem?_cons_zero]; rfl) (by kernel_rfl) (by kernel_rfl) (by kernel_rfl) (by intro _ _ _ h; exact h) (Or.inl ⟨by rfl, (by intro w' hSw; (try dsimp only at hSw); go_simp; first | done | with_reducible rfl)⟩) (by assumption) ?_; (try simp only [Act.put, List.setIfInBounds_toArray, List.set_cons_zero, List.set_cons_succ]))
            (refine wpH_take (i := 12) (v := _) (by simp only [List.getElem?_toArray, List.getElem?_cons_succ, List.getElem?_cons_zero]; rfl) (by kernel_rfl) (by kernel_rfl) (by kernel_rfl) (by intro _ _ _ h; exact h) (Or.inl ⟨by rfl, (by intro w' hSw; (try dsimp only at hSw); go_simp; first | done | with_reducible rfl)⟩) (by assumption) ?_; (try simp only [Act.put, List.setIfInBounds_toArray, List.set_cons_zero, List.set_cons_succ]))
            (refine wpH_take (i := 13) (v := _) (by simp only [List.getElem?_toArray, List.getElem?_cons_succ, List.getElem?_cons_zero]; rfl) (by kernel_rfl) (by kernel_rfl) (by kernel_rfl) (by intro _ _ _ h; exact h) (Or.inl ⟨by rfl, (by intro w' hSw; (try dsimp only at hSw); go_simp; first | done | with_reducible rfl)⟩) (by assumption) ?_; (try simp only [Act.put, List.setIfInBounds_toArray, List.set_cons_zero, List.set_cons_succ]))
            (refine wpH_take (i := 14) (v := _) (by simp only [List.getElem?_toArray, List.getElem?_cons_succ, List.getElem?_cons_zero]; rfl) (by kernel_rfl) (by kernel_rfl) (by kernel_rfl) (by intro _ _ _ h; exact h) (Or.inl ⟨by rfl, (by intro w' hSw; (try dsimp only at hSw); go_simp; first | done | with_reducible rfl)⟩) (by assumption) ?_; (try simp only [Act.put, List.setIfInBounds_toArray, List.set_cons_zero, List.set_cons_succ]))
            (refine wpH_take (i := 15) (v := _) (by simp only [List.getElem?_toArray, List.getElem?_cons_succ, List.getElem?_cons_zero]; rfl) (by kernel_rfl) (by kernel_rfl) (by kernel_rfl) (by intro _ _ _ h; exact h) (Or.inl ⟨by rfl, (by intro w' hSw; (try dsimp only at hSw); go_simp; first | done | with_reducible rfl)⟩) (by assumption) ?_; (try simp only [Act.put, List.setIfInBounds_toArray, List.set_cons_zero, List.set_cons_succ]))
            (refine wpH_take (i := 16) (v := _) (by simp only [List.getElem?_toArray, List.getElem?_cons_succ, List.getElem?_cons_zero]; rfl) (by kernel_rfl) (by kernel_rfl) (by kernel_rfl) (by intro _ _ _ h; exact h) (Or.inl ⟨by rfl, (by intro w' hSw; (try dsimp only at hSw); go_simp; first | done | with_reducible rfl)⟩) (by assumption) ?_; (try simp only [Act.put, List.setIfInBounds_toArray, List.set_cons_zero, List.set_cons_succ]))
            refine wpH_done (by kernel_rfl) ?_ _
            obtain ⟨k2, k3⟩ := hS6
            have hb6 : Below wo.heap.size w0.drew w5 := g6.below (show wo.heap.size ≤ w0.heap.size by omega) hlo
            have B6 : Below w.heap.size w w5 := B5.drew.trans (hb6.mono (by omega))
            have hB6 := hB5.drew.below hb6 (Nat.le_refl _)
            have W6 : Pw w5 w.heap.size (some ⟨g, 0, none⟩) m (mX X Y m) (mY Y m) := fun hm => by
              obtain ⟨g1, hg, h1, h2, h3, h4⟩ := W5 hm
              injection hg with hg
              injection hg with hg
              subst hg
              exact ⟨g, rfl, h1, by have := hb6.size; (have : w0.heap.size ≤ w5.heap.size := this); omega, fun j => (hb6.frozen (show g < wo.heap.size by omega)).trans (h3 j), h4.drew.below hb6 (by omega)⟩
            have z7 : w0.heap.size ≤ w5.heap.size := hb6.size
            clear hU R5 W5 hB5 B5 g6 z6 hb6 hHeld D0 k0 k1 q0 q1
            have e6 : IntKind.i64.wrap ((lq Y k : Int) + sq (Y k)) = lq Y k + sq (Y k) := IntWalk.i64_in _ (by omega)
            go_wp2_with fail
            exact ⟨⟨k + 1, by omega, by go_num, by simp [lq], R6, hB6, W6, B6, by omega⟩, by simp [intOf]; omega⟩
          · have e : m = k := by omega
            subst e
            have hdr : (bq X Y m).drop (lq Y m) = [] := by rw [List.drop_eq_nil_iff, hln]; exact Nat.le_refl _
            rw [hdr] at hRt
            have hL := left_any _ g' [] 0 _ hRt
            have hE2 := err_any _ g' [] 0 _ hRt
            go_wp2_with (first | (go_at_call 9; ((with_reducible refine (hL).mono ?_); rintro e w1 ⟨rfl, rfl⟩)) | (go_at_call 10; ((with_reducible refine (hE2).mono ?_); rintro e w1 ⟨rfl, rfl⟩)))
            refine (awake_any _).mono ?_
            rintro e w8 ⟨rfl, hb8⟩
            have B8 := B4.trans (hb8.mono B4.size)
            go_wp2
            go_ret
            exact ⟨rfl, B8⟩
end Go.Proofs.Ytkacncacfnhdjaa
