/- The jar of cookies: Open of the program. -/
import Derived.Test.YtachhbbofemfdaaDoorGXz12
import Derived.Test.YtachhbbofemfdaaDoorGXz5
namespace Go.Proofs.YtachhbbofemfdaaDoor
open Go.RowKit
set_option linter.unusedSimpArgs false
set_option linter.unusedVariables false
set_option maxRecDepth 100000
theorem But.undrew {g : Nat} {w w' : World} (h : But g w.drew w') : But g w w' := ⟨h.os, h.tape, h.output, h.size, h.block⟩
/-- is the generation not accepted? -/
def staleB (k g T : Int) : Bool := decide (T < 1) || decide (g < T) || decide (T ≤ g - k)
/-- the error of a cookie -/
def opE (s k g : Int) (l : List Int) : Int :=
  if l.length < 52 then 5 else if 52 < l.length then 6 else if staleB k g (fB l 0 4) then 17 else if fB l 44 8 = jtag s (fB l 0 4) (l.take 44) then 0 else 16
/-- number i of the keys -/
def opK (s k g : Int) (l : List Int) (i : Nat) : Int := if opE s k g l = 0 then xr (fB l (12 + 8 * i) 8) (padF s (fB l 0 4) (fB l 4 8) i) else 0
def opV (s k g : Int) (l : List Int) : Value := .tuple #[keyV (opK s k g l 0) (opK s k g l 1), keyV (opK s k g l 2) (opK s k g l 3), .int .i64 (opE s k g l)]
theorem opV_err {s k g E : Int} {l : List Int} (h : opE s k g l = E) (hE : E ≠ 0) : opV s k g l = .tuple #[keyV 0 0, keyV 0 0, .int .i64 E] := by
  unfold opV opK
  rw [if_neg (by rw [h]; exact hE), if_neg (by rw [h]; exact hE), if_neg (by rw [h]; exact hE), if_neg (by rw [h]; exact hE), h]
theorem opV_ok {s k g : Int} {l : List Int} (h : opE s k g l = 0) : opV s k g l = .tuple #[keyV (xr (fB l 12 8) (padF s (fB l 0 4) (fB l 4 8) 0)) (xr (fB l 20 8) (padF s (fB l 0 4) (fB l 4 8) 1)), keyV (xr (fB l 28 8) (padF s (fB l 0 4) (fB l 4 8) 2)) (xr (fB l 36 8) (padF s (fB l 0 4) (fB l 4 8) 3)), .int .i64 0] := by
  unfold opV opK
  rw [if_pos h, if_pos h, if_pos h, if_pos h, h]
  rfl
open Go.RowKit
set_option maxHeartbeats 4000000 in
theorem open_len (bj : Nat) (s k g : Int) (A : Option Addr) (n c : Nat) (l : List Int) (w : World) (hn : l.length = n) (h : n ≠ 52) :
    Calls Tryd.prog 32 #[.pointer (some ⟨bj, 0, none⟩), .slice A n c] w fun e w' => e = .returned (opV s k g l) ∧ Below w.heap.size w w' := by
  by_cases h1 : n < 52
  · have hE : Hid (opV s k g l = .tuple #[keyV 0 0, keyV 0 0, .int .i64 5]) := opV_err (by unfold opE; rw [if_pos (by omega)]) (by decide)
    have d1 : decide ((n : Int) < 52) = true := decide_eq_true (by omega)
    clear h h1
    go_enter Tryd.func32, Tryd.ntmps32
    go_wp2_with (first
      | ((with_reducible show wpList _ _ _ (⟨some 4, _, _, _, _, _⟩ :: _) _ _); refine wpl_alloc (by rfl) 29 (by rfl) (keyV 0 0) (keyL 0 0) zeroKey rfl ?_; intro w1 X1 s1 b1)
      | (((with_reducible show wpList _ _ _ (⟨some 5, _, _, _, _, _⟩ :: _) _ _); refine wpl_alloc (by rfl) 29 (by rfl) (keyV 0 0) (keyL 0 0) zeroKey rfl ?_; intro w2 Y2 s2 b2); (have X2 := X1.below b2 (by omega)))
      | ((refine wpl_store (by rfl) 29 _ _ (by rfl) w.heap.size (by rfl) _ (by rfl) (keyL 0 0) rfl 29 _ X2 (show (2 : Nat) = 2 from rfl) _ sizeKey (by rfl) (by simp [Value.oneCell']) ?_; intro w3 X3 s3 g3); (have Y3 := Y2.but g3 (by omega)))
      | ((refine wpl_store (by rfl) 29 _ _ (by rfl) w1.heap.size (by rfl) _ (by rfl) (keyL 0 0) rfl 29 _ Y3 (show (2 : Nat) = 2 from rfl) _ sizeKey (by rfl) (by simp [Value.oneCell']) ?_; intro w4 Y4 s4 g4); (have X4 := X3.but g4 (by omega))))
    refine bodyPost_ret (res_ccx Tryd.results32 (by rfl) (by rfl) X4 Y4 Tryd.underlying29 rfl sizeKey (show (2 : Nat) = 2 from rfl) (show (2 : Nat) = 2 from rfl) (by rfl)) rfl ?_
    exact ⟨by rw [hE.out]; rfl, ((b1.trans (b2.mono (by omega))).trans (g3.below (by omega) (by omega))).trans (g4.below (by omega) (by omega))⟩
  · have hE : Hid (opV s k g l = .tuple #[keyV 0 0, keyV 0 0, .int .i64 6]) := opV_err (by unfold opE; rw [if_neg (by omega), if_pos (by omega)]) (by decide)
    have d1 : decide ((n : Int) < 52) = false := decide_eq_false (by omega)
    have d2 : decide ((52 : Int) < n) = true := decide_eq_true (by omega)
    clear h h1
    go_enter Tryd.func32, Tryd.ntmps32
    go_wp2_with (first
      | ((with_reducible show wpList _ _ _ (⟨some 4, _, _, _, _, _⟩ :: _) _ _); refine wpl_alloc (by rfl) 29 (by rfl) (keyV 0 0) (keyL 0 0) zeroKey rfl ?_; intro w1 X1 s1 b1)
      | (((with_reducible show wpList _ _ _ (⟨some 5, _, _, _, _, _⟩ :: _) _ _); refine wpl_alloc (by rfl) 29 (by rfl) (keyV 0 0) (keyL 0 0) zeroKey rfl ?_; intro w2 Y2 s2 b2); (have X2 := X1.below b2 (by omega)))
      | ((refine wpl_store (by rfl) 29 _ _ (by rfl) w.heap.size (by rfl) _ (by rfl) (keyL 0 0) rfl 29 _ X2 (show (2 : Nat) = 2 from rfl) _ sizeKey (by rfl) (by simp [Value.oneCell']) ?_; intro w3 X3 s3 g3); (have Y3 := Y2.but g3 (by omega)))
      | ((refine wpl_store (by rfl) 29 _ _ (by rfl) w1.heap.size (by rfl) _ (by rfl) (keyL 0 0) rfl 29 _ Y3 (show (2 : Nat) = 2 from rfl) _ sizeKey (by rfl) (by simp [Value.oneCell']) ?_; intro w4 Y4 s4 g4); (have X4 := X3.but g4 (by omega))))
    refine bodyPost_ret (res_ccx Tryd.results32 (by rfl) (by rfl) X4 Y4 Tryd.underlying29 rfl sizeKey (show (2 : Nat) = 2 from rfl) (show (2 : Nat) = 2 from rfl) (by rfl)) rfl ?_
    exact ⟨by rw [hE.out]; rfl, ((b1.trans (b2.mono (by omega))).trans (g3.below (by omega) (by omega))).trans (g4.below (by omega) (by omega))⟩
open Go.RowKit
def rdL (x0 x1 x2 x3 : Int) : Nat → List Value
  | 0 => fourL 0 0 0 0
  | 1 => fourL x0 0 0 0
  | 2 => fourL x0 x1 0 0
  | 3 => fourL x0 x1 x2 0
  | _ => fourL x0 x1 x2 x3
def rdO : Nat → Nat
  | 0 => 12
  | 1 => 20
  | 2 => 28
  | 3 => 36
  | _ => 44
set_option maxHeartbeats 16000000 in
theorem open_52 (bj : Nat) (s k' g : Int) (A : Option Addr) (c : Nat) (l : List Int) (w : World) (hn : l.length = 52) (h : Bs w 0 w.heap.size A l) (hc : 52 ≤ c) (hcc : c ≤ 9223372036854775807) (hs : U64 s) (hg : Gn g) (hk : 1 ≤ k' ∧ k' ≤ 8) (hJ : Blk w bj 84 (jarL s k' g)) (hR : Rnd w) :
    Calls Tryd.prog 32 #[.pointer (some ⟨bj, 0, none⟩), .slice A 52 c] w fun e w' => e = .returned (opV s k' g l) ∧ Below w.heap.size w w' := by
  have hbj := hJ.lt
  have hw0 := hR.lt
  have HN := Lib.hid hn
  have T0 := fB_rng h.byt 0 4
  rw [p4] at T0
  have G0 := fB_rng h.byt 44 8
  rw [p8] at G0
  obtain ⟨T, hT⟩ : ∃ T, fB l 0 4 = T := ⟨_, rfl⟩
  obtain ⟨N, hNn⟩ : ∃ N, fB l 4 8 = N := ⟨_, rfl⟩
  obtain ⟨x0, hx0⟩ : ∃ x, fB l 12 8 = x := ⟨_, rfl⟩
  obtain ⟨x1, hx1⟩ : ∃ x, fB l 20 8 = x := ⟨_, rfl⟩
  obtain ⟨x2, hx2⟩ : ∃ x, fB l 28 8 = x := ⟨_, rfl⟩
  obtain ⟨x3, hx3⟩ : ∃ x, fB l 36 8 = x := ⟨_, rfl⟩
  rw [hT] at T0
  have e1 : IntKind.i64.wrap T = T := by rw [IntKind.wrap_i64]; omega
  have HT := Lib.hid hT
  have HNn := Lib.hid hNn
  have HX0 := Lib.hid hx0
  have HX1 := Lib.hid hx1
  have HX2 := Lib.hid hx2
  have HX3 := Lib.hid hx3
  clear hT hNn hx0 hx1 hx2 hx3 hn
  go_enter Tryd.func32, Tryd.ntmps32
  go_wp2_with (first
    | (((with_reducible show wpList _ _ _ (⟨some 4, _, _, _, _, _⟩ :: _) _ _); refine wpl_alloc (by rfl) 29 (by rfl) (keyV 0 0) (keyL 0 0) zeroKey rfl ?_; intro w1 X1 s1 b1); (have J1 := hJ.below b1 hbj); (have R1 := hR.below b1 hw0))
    | (((with_reducible show wpList _ _ _ (⟨some 5, _, _, _, _, _⟩ :: _) _ _); refine wpl_alloc (by rfl) 29 (by rfl) (keyV 0 0) (keyL 0 0) zeroKey rfl ?_; intro w2 Y2 s2 b2); (have X2 := X1.below b2 (by omega)); (have J2 := J1.below b2 (by omega)); (have R2 := R1.below b2 R1.lt)))
  have h2 := (h.below b1 (Nat.le_refl _)).below b2 (by omega)
  have B2 := b1.trans (b2.mono (by omega))
  have hE := newReader_any A 52 c _ _ l w2 HN.out h2 (by omega) (by omega)
  with_reducible refine hE.mono ?_
  rintro e w3 ⟨rg, rfl, D3, hrg, b3⟩
  have X3 := X2.below b3 (by omega)
  have Y3 := Y2.below b3 (by omega)
  have J3 := J2.below b3 (by omega)
  have R3 := R2.below b3 R2.lt
  have h3 := h2.below b3 (by omega)
  have B3 := B2.trans (b3.mono B2.size)
  have z3 := b3.size
  have hl3 : w2.heap.size ≤ rg ∧ rg < w3.heap.size := ⟨by obtain ⟨_, _, _, _, _, _, _, _, hlo, _⟩ := D3; exact hlo, D3.lt⟩
  clear hE X1 X2 Y2 J1 J2 R1 R2 h2 B2 b1 b2 b3 hJ hR
  have hE := uint_at w2.heap.size rg l 0 4 4 4 w3 (by simpa using D3) (by omega) (by omega) (by rw [HN.out]; omega) rfl rfl
  rw [HT.out] at hE
  go_wp2_with fail
  with_reducible refine hE.mono ?_
  rintro e w4 ⟨rfl, D4, g4, z4⟩
  have X4 := X3.but g4 (by omega)
  have Y4 := Y3.but g4 (by omega)
  have J4 := J3.but g4 (by have := J3.lt; omega)
  have R4 := R3.but g4 (by omega)
  have h4 := h3.grown g4 (by omega) (by intro r hr; simp at hr; omega)
  have B4 := B3.trans (g4.below (by omega) (by omega))
  clear hE X3 Y3 J3 R3 h3 B3 g4 D3
  have hE := uint_at w2.heap.size rg l 4 8 12 8 w4 D4 (by omega) (by omega) (by rw [HN.out]; omega) rfl rfl
  rw [HNn.out] at hE
  go_wp2_with fail
  with_reducible refine hE.mono ?_
  rintro e w5 ⟨rfl, D5, g5, z5⟩
  have X5 := X4.but g5 (by omega)
  have Y5 := Y4.but g5 (by omega)
  have J5 := J4.but g5 (by omega)
  have R5 := R4.but g5 (by omega)
  have h5 := h4.grown g5 (by omega) (by intro r hr; simp at hr; omega)
  have B5 := B4.trans (g5.below (by omega) (by omega))
  clear hE X4 Y4 J4 R4 h4 B4 g5 D4
  go_wp2_with (first
    | ((with_reducible show wpList _ _ _ (⟨some 10, _, _, _, _, _⟩ :: _) _ _); refine wpl_alloc (by rfl) 95 (by rfl) (fourV 0 0 0 0) (fourL 0 0 0 0) zero4 rfl ?_; intro w6 M6 s6 b6))
  have X6 := X5.below b6 (by omega)
  have Y6 := Y5.below b6 (by omega)
  have J6 := J5.below b6 (by omega)
  have R6 := R5.below b6 R5.lt
  have h6 := h5.below b6 (by omega)
  have B6 := B5.trans (b6.mono (by omega))
  have D6 := D5.below b6 (by omega)
  have hrm : w5.heap.size ≠ rg := by omega
  have hxr : w.heap.size ≠ rg := by omega
  have hyr : w1.heap.size ≠ rg := by omega
  have hjr : bj ≠ rg := by omega
  have hpr : 0 ≠ rg := by omega
  have hxm : w.heap.size ≠ w5.heap.size := by omega
  have hym : w1.heap.size ≠ w5.heap.size := by omega
  have hjm : bj ≠ w5.heap.size := by omega
  have hpm : 0 ≠ w5.heap.size := by omega
  have hrl : w2.heap.size ≤ rg ∧ rg < w5.heap.size := by omega
  have hw2 : w.heap.size ≤ w2.heap.size ∧ w.heap.size ≤ rg ∧ w.heap.size ≤ w5.heap.size := by omega
  clear X5 Y5 J5 R5 h5 B5 D5 b6
  generalize w5.heap.size = mb at M6 hrm hxm hym hjm hpm hrl hw2 ⊢
  go_loopw [37] (fun i wr => ∃ k : Nat, k ≤ 4 ∧ i = .int .i64 k ∧ Blk wr mb 95 (rdL x0 x1 x2 x3 k) ∧ Rd wr w2.heap.size rg (l.drop (rdO k)) 0 ∧ Blk wr w.heap.size 29 (keyL 0 0) ∧ Blk wr w1.heap.size 29 (keyL 0 0) ∧ Blk wr bj 84 (jarL s k' g) ∧ Rnd wr ∧ Below w.heap.size w wr) (fun i _ => 4 - (intOf i).toNat)
  case atStart => exact ⟨0, by omega, rfl, M6, D6, X6, Y6, J6, R6, B6⟩
  case round =>
    obtain ⟨k, hk, rfl, hM, hRd, hX, hY, hJ, hP, hB⟩ := hrel
    obtain ⟨wo, rfl⟩ : ∃ wo : World, wo = wr := ⟨wr, rfl⟩
    clear M6 D6 X6 Y6 J6 R6 B6
    have : k = 0 ∨ k = 1 ∨ k = 2 ∨ k = 3 ∨ k = 4 := by omega
    rcases this with rfl | rfl | rfl | rfl | rfl
    · skip
      have hE := uint_at w2.heap.size rg l 12 8 20 8 wo hRd (by omega) (by omega) (by rw [HN.out]; omega) rfl rfl
      rw [HX0.out] at hE
      go_wp2_with (first
        | (go_at_call 62; ((with_reducible refine hE.mono ?_); rintro e w6 ⟨rfl, hR6, g6, z6⟩; (have M6 := hM.but g6 hrm)))
        | (refine wpl_storeg (by rfl) 22 _ _ (by rfl) mb 0 (by rfl) (.int .u64 x0) (by rfl) (by rfl) (by simp [Value.oneCell']) 95 _ (fourL x0 0 0 0) M6 (show 0 < 4 by omega) zeroU64'' (by rfl) ?_; intro w7 M7 s7 g7))
      have hR7 : Rd w7 w2.heap.size rg (l.drop 20) 0 := hR6.grown g7 (by intro r hr; simp at hr; omega)
      exact ⟨⟨1, by omega, rfl, M7, hR7, (hX.but g6 hxr).but g7 hxm, (hY.but g6 hyr).but g7 hym, (hJ.but g6 hjr).but g7 hjm, (hP.but g6 hpr).but g7 hpm, hB.trans ((g6.below hB.size (by omega)).trans (g7.below (Nat.le_trans hB.size z6) (by omega)))⟩, by simp [intOf] <;> decide⟩
    · skip
      have hE := uint_at w2.heap.size rg l 20 8 28 8 wo hRd (by omega) (by omega) (by rw [HN.out]; omega) rfl rfl
      rw [HX1.out] at hE
      go_wp2_with (first
        | (go_at_call 62; ((with_reducible refine hE.mono ?_); rintro e w6 ⟨rfl, hR6, g6, z6⟩; (have M6 := hM.but g6 hrm)))
        | (refine wpl_storeg (by rfl) 22 _ _ (by rfl) mb 1 (by rfl) (.int .u64 x1) (by rfl) (by rfl) (by simp [Value.oneCell']) 95 _ (fourL x0 x1 0 0) M6 (show 1 < 4 by omega) zeroU64'' (by rfl) ?_; intro w7 M7 s7 g7))
      have hR7 : Rd w7 w2.heap.size rg (l.drop 28) 0 := hR6.grown g7 (by intro r hr; simp at hr; omega)
      exact ⟨⟨2, by omega, rfl, M7, hR7, (hX.but g6 hxr).but g7 hxm, (hY.but g6 hyr).but g7 hym, (hJ.but g6 hjr).but g7 hjm, (hP.but g6 hpr).but g7 hpm, hB.trans ((g6.below hB.size (by omega)).trans (g7.below (Nat.le_trans hB.size z6) (by omega)))⟩, by simp [intOf] <;> decide⟩
    · skip
      have hE := uint_at w2.heap.size rg l 28 8 36 8 wo hRd (by omega) (by omega) (by rw [HN.out]; omega) rfl rfl
      rw [HX2.out] at hE
      go_wp2_with (first
        | (go_at_call 62; ((with_reducible refine hE.mono ?_); rintro e w6 ⟨rfl, hR6, g6, z6⟩; (have M6 := hM.but g6 hrm)))
        | (refine wpl_storeg (by rfl) 22 _ _ (by rfl) mb 2 (by rfl) (.int .u64 x2) (by rfl) (by rfl) (by simp [Value.oneCell']) 95 _ (fourL x0 x1 x2 0) M6 (show 2 < 4 by omega) zeroU64'' (by rfl) ?_; intro w7 M7 s7 g7))
      have hR7 : Rd w7 w2.heap.size rg (l.drop 36) 0 := hR6.grown g7 (by intro r hr; simp at hr; omega)
      exact ⟨⟨3, by omega, rfl, M7, hR7, (hX.but g6 hxr).but g7 hxm, (hY.but g6 hyr).but g7 hym, (hJ.but g6 hjr).but g7 hjm, (hP.but g6 hpr).but g7 hpm, hB.trans ((g6.below hB.size (by omega)).trans (g7.below (Nat.le_trans hB.size z6) (by omega)))⟩, by simp [intOf] <;> decide⟩
    · skip
      have hE := uint_at w2.heap.size rg l 36 8 44 8 wo hRd (by omega) (by omega) (by rw [HN.out]; omega) rfl rfl
      rw [HX3.out] at hE
      go_wp2_with (first
        | (go_at_call 62; ((with_reducible refine hE.mono ?_); rintro e w6 ⟨rfl, hR6, g6, z6⟩; (have M6 := hM.but g6 hrm)))
        | (refine wpl_storeg (by rfl) 22 _ _ (by rfl) mb 3 (by rfl) (.int .u64 x3) (by rfl) (by rfl) (by simp [Value.oneCell']) 95 _ (fourL x0 x1 x2 x3) M6 (show 3 < 4 by omega) zeroU64'' (by rfl) ?_; intro w7 M7 s7 g7))
      have hR7 : Rd w7 w2.heap.size rg (l.drop 44) 0 := hR6.grown g7 (by intro r hr; simp at hr; omega)
      exact ⟨⟨4, by omega, rfl, M7, hR7, (hX.but g6 hxr).but g7 hxm, (hY.but g6 hyr).but g7 hym, (hJ.but g6 hjr).but g7 hjm, (hP.but g6 hpr).but g7 hpm, hB.trans ((g6.below hB.size (by omega)).trans (g7.below (Nat.le_trans hB.size z6) (by omega)))⟩, by simp [intOf] <;> decide⟩
    · have hM' : Blk wo mb 95 (fourL x0 x1 x2 x3) := hM
      have hRd' : Rd wo w2.heap.size rg (l.drop 44) 0 := hRd
      have hb := h.below hB (Nat.le_refl _)
      have q1 := hJ.cell (i := 1) (v := .int .i64 k') rfl
      have q2 := hJ.cell (i := 2) (v := .int .i64 g) rfl
      have hwr : IntKind.i64.wrap (g - k') = g - k' := by obtain ⟨h0, h1⟩ := hg; rw [IntKind.wrap_i64]; omega
      have zB := hB.size
      clear hM hRd
      go_wp2_with fail
      by_cases hA : T < 1
      · have dA : decide (T < 1) = true := decide_eq_true hA
        have HE : Hid (opV s k' g l = .tuple #[keyV 0 0, keyV 0 0, .int .i64 17]) := opV_err (by unfold opE staleB; rw [HT.out, if_neg (by rw [HN.out]; omega), if_neg (by rw [HN.out]; omega), if_pos (by rw [dA]; rfl)]) (by decide)
        clear hA
        refine wp_region_det (fun y => y = wo.drew) 24 (by kernel_rfl) rfl (by rfl) ?_
        simp only [List.replicate]
        (refine wpD_t 0 _ (by exact gE rfl) (by kernel_rfl) (by rfl) (YS.of_value (by intro _ h; (try dsimp only at h); go_simp; first | done | with_reducible rfl)) ?_; (try simp only [Act.put, zs0, zs1, zs2]))
        (refine wpD_t 1 _ (by exact gE rfl) (by kernel_rfl) (by rfl) (YS.of_value (by intro _ h; (try dsimp only at h); go_simp; first | done | with_reducible rfl)) ?_; (try simp only [Act.put, zs0, zs1, zs2]))
        (refine wpD_t 2 _ (by exact gE rfl) (by kernel_rfl) (by rfl) (YS.of_value (by intro _ h; (try dsimp only at h); go_simp; first | done | with_reducible rfl)) ?_; (try simp only [Act.put, zs0, zs1, zs2]))
        (refine wpD_skip (i := 3) (by exact gE rfl) (by kernel_rfl) (by kernel_rfl) (by kernel_rfl) (by rfl) ?_; (try simp only [Act.put, zs0, zs1, zs2]))
        (refine wpD_skip (i := 4) (by exact gE rfl) (by kernel_rfl) (by kernel_rfl) (by kernel_rfl) (by rfl) ?_; (try simp only [Act.put, zs0, zs1, zs2]))
        (refine wpD_skip (i := 5) (by exact gE rfl) (by kernel_rfl) (by kernel_rfl) (by kernel_rfl) (by rfl) ?_; (try simp only [Act.put, zs0, zs1, zs2]))
        (refine wpD_skip (i := 6) (by exact gE rfl) (by kernel_rfl) (by kernel_rfl) (by kernel_rfl) (by rfl) ?_; (try simp only [Act.put, zs0, zs1, zs2]))
        (refine wpD_skip (i := 7) (by exact gE rfl) (by kernel_rfl) (by kernel_rfl) (by kernel_rfl) (by rfl) ?_; (try simp only [Act.put, zs0, zs1, zs2]))
        (refine wpD_skip (i := 8) (by exact gE rfl) (by kernel_rfl) (by kernel_rfl) (by kernel_rfl) (by rfl) ?_; (try simp only [Act.put, zs0, zs1, zs2]))
        (refine wpD_t 9 _ (by exact gE rfl) (by kernel_rfl) (by rfl) (YS.of_value (by intro _ h; (try dsimp only at h); go_simp; first | done | with_reducible rfl)) ?_; (try simp only [Act.put, zs0, zs1, zs2]))
        (refine wpD_t 10 _ (by exact gE rfl) (by kernel_rfl) (by rfl) (YS.of_value (by intro _ h; (try dsimp only at h); go_simp; first | done | with_reducible rfl)) ?_; (try simp only [Act.put, zs0, zs1, zs2]))
        (refine wpD_skip (i := 11) (by exact gE rfl) (by kernel_rfl) (by kernel_rfl) (by kernel_rfl) (by rfl) ?_; (try simp only [Act.put, zs0, zs1, zs2]))
        (refine wpD_skip (i := 12) (by exact gE rfl) (by kernel_rfl) (by kernel_rfl) (by kernel_rfl) (by rfl) ?_; (try simp only [Act.put, zs0, zs1, zs2]))
        (refine wpD_skip (i := 13) (by exact gE rfl) (by kernel_rfl) (by kernel_rfl) (by kernel_rfl) (by rfl) ?_; (try simp only [Act.put, zs0, zs1, zs2]))
        (refine wpD_skip (i := 14) (by exact gE rfl) (by kernel_rfl) (by kernel_rfl) (by kernel_rfl) (by rfl) ?_; (try simp only [Act.put, zs0, zs1, zs2]))
        (refine wpD_skip (i := 15) (by exact gE rfl) (by kernel_rfl) (by kernel_rfl) (by kernel_rfl) (by rfl) ?_; (try simp only [Act.put, zs0, zs1, zs2]))
        (refine wpD_skip (i := 16) (by exact gE rfl) (by kernel_rfl) (by kernel_rfl) (by kernel_rfl) (by rfl) ?_; (try simp only [Act.put, zs0, zs1, zs2]))
        (refine wpD_skip (i := 17) (by exact gE rfl) (by kernel_rfl) (by kernel_rfl) (by kernel_rfl) (by rfl) ?_; (try simp only [Act.put, zs0, zs1, zs2]))
        (refine wpD_skip (i := 18) (by exact gE rfl) (by kernel_rfl) (by kernel_rfl) (by kernel_rfl) (by rfl) ?_; (try simp only [Act.put, zs0, zs1, zs2]))
        (refine wpD_skip (i := 19) (by exact gE rfl) (by kernel_rfl) (by kernel_rfl) (by kernel_rfl) (by rfl) ?_; (try simp only [Act.put, zs0, zs1, zs2]))
        (refine wpD_skip (i := 20) (by exact gE rfl) (by kernel_rfl) (by kernel_rfl) (by kernel_rfl) (by rfl) ?_; (try simp only [Act.put, zs0, zs1, zs2]))
        (refine wpD_skip (i := 21) (by exact gE rfl) (by kernel_rfl) (by kernel_rfl) (by kernel_rfl) (by rfl) ?_; (try simp only [Act.put, zs0, zs1, zs2]))
        (refine wpD_t 22 _ (by exact gE rfl) (by kernel_rfl) (by rfl) (YS.of_value (by intro _ h; (try dsimp only at h); go_simp; first | done | with_reducible rfl)) ?_; (try simp only [Act.put, zs0, zs1, zs2]))
        (refine wpD_t 23 _ (by exact gE rfl) (by kernel_rfl) (by rfl) (YS.of_value (by intro _ h; (try dsimp only at h); go_simp; first | done | with_reducible rfl)) ?_; (try simp only [Act.put, zs0, zs1, zs2]))
        refine wpD_done (by kernel_rfl) ?_ _
        rintro _ rfl
        have XZ := hX.drew
        have YZ := hY.drew
        have BZ := hB.drew
        have zZ := BZ.size
        have lx := XZ.lt
        have ly := YZ.lt
        go_wp2_with (first
          | ((refine wpl_store (by rfl) 29 _ _ (by rfl) w.heap.size (by rfl) _ (by rfl) (keyL 0 0) rfl 29 _ XZ (show (2 : Nat) = 2 from rfl) _ sizeKey (by rfl) (by simp [Value.oneCell']) ?_; intro w8 X8 s8 g8); (have Y8 := YZ.but g8 (by omega)))
          | ((refine wpl_store (by rfl) 29 _ _ (by rfl) w1.heap.size (by rfl) _ (by rfl) (keyL 0 0) rfl 29 _ Y8 (show (2 : Nat) = 2 from rfl) _ sizeKey (by rfl) (by simp [Value.oneCell']) ?_; intro w9 Y9 s9 g9); (have X9 := X8.but g9 (by omega))))
        refine bodyPost_ret (res_ccx Tryd.results32 (by rfl) (by rfl) X9 Y9 Tryd.underlying29 rfl sizeKey (show (2 : Nat) = 2 from rfl) (show (2 : Nat) = 2 from rfl) (by rfl)) rfl ?_
        exact ⟨by rw [HE.out]; rfl, (BZ.trans (g8.below zZ (Nat.le_refl _))).trans (g9.below (by omega) (by omega))⟩
      have dA : decide (T < 1) = false := decide_eq_false hA
      by_cases hBB : g < T
      · have dB : decide (g < T) = true := decide_eq_true hBB
        have HE : Hid (opV s k' g l = .tuple #[keyV 0 0, keyV 0 0, .int .i64 17]) := opV_err (by unfold opE staleB; rw [HT.out, if_neg (by rw [HN.out]; omega), if_neg (by rw [HN.out]; omega), if_pos (by rw [dA, dB]; rfl)]) (by decide)
        clear hA hBB
        refine wp_region_det (fun y => y = wo.drew) 24 (by kernel_rfl) rfl (by rfl) ?_
        simp only [List.replicate]
        (refine wpD_t 0 _ (by exact gE rfl) (by kernel_rfl) (by rfl) (YS.of_value (by intro _ h; (try dsimp only at h); go_simp; first | done | with_reducible rfl)) ?_; (try simp only [Act.put, zs0, zs1, zs2]))
        (refine wpD_t 1 _ (by exact gE rfl) (by kernel_rfl) (by rfl) (YS.of_value (by intro _ h; (try dsimp only at h); go_simp; first | done | with_reducible rfl)) ?_; (try simp only [Act.put, zs0, zs1, zs2]))
        (refine wpD_t 2 _ (by exact gE rfl) (by kernel_rfl) (by rfl) (YS.of_value (by intro _ h; (try dsimp only at h); go_simp; first | done | with_reducible rfl)) ?_; (try simp only [Act.put, zs0, zs1, zs2]))
        (refine wpD_t 3 _ (by exact gE rfl) (by kernel_rfl) (by rfl) (YS.of_value (by intro _ h; (try dsimp only at h); go_simp; first | done | with_reducible rfl)) ?_; (try simp only [Act.put, zs0, zs1, zs2]))
        (refine wpD_t 4 _ (by exact gE rfl) (by kernel_rfl) (by rfl) (YS.of_value (by intro _ h; (try dsimp only at h); go_simp; first | done | with_reducible rfl)) ?_; (try simp only [Act.put, zs0, zs1, zs2]))
        (refine wpD_t 5 _ (by exact gE rfl) (by kernel_rfl) (by rfl) (YS.of_value (by intro _ h; (try dsimp only at h); go_simp; first | done | with_reducible rfl)) ?_; (try simp only [Act.put, zs0, zs1, zs2]))
        (refine wpD_t 6 _ (by exact gE rfl) (by kernel_rfl) (by rfl) (YS.of_value (by intro _ h; (try dsimp only at h); go_simp; first | done | with_reducible rfl)) ?_; (try simp only [Act.put, zs0, zs1, zs2]))
        (refine wpD_t 7 _ (by exact gE rfl) (by kernel_rfl) (by rfl) (YS.of_value (by intro _ h; (try dsimp only at h); go_simp; first | done | with_reducible rfl)) ?_; (try simp only [Act.put, zs0, zs1, zs2]))
        (refine wpD_t 8 _ (by exact gE rfl) (by kernel_rfl) (by rfl) (YS.of_value (by intro _ h; (try dsimp only at h); go_simp; first | done | with_reducible rfl)) ?_; (try simp only [Act.put, zs0, zs1, zs2]))
        (refine wpD_t 9 _ (by exact gE rfl) (by kernel_rfl) (by rfl) (YS.of_value (by intro _ h; (try dsimp only at h); go_simp; first | done | with_reducible rfl)) ?_; (try simp only [Act.put, zs0, zs1, zs2]))
        (refine wpD_t 10 _ (by exact gE rfl) (by kernel_rfl) (by rfl) (YS.of_value (by intro _ h; (try dsimp only at h); go_simp; first | done | with_reducible rfl)) ?_; (try simp only [Act.put, zs0, zs1, zs2]))
        (refine wpD_skip (i := 11) (by exact gE rfl) (by kernel_rfl) (by kernel_rfl) (by kernel_rfl) (by rfl) ?_; (try simp only [Act.put, zs0, zs1, zs2]))
        (refine wpD_skip (i := 12) (by exact gE rfl) (by kernel_rfl) (by kernel_rfl) (by kernel_rfl) (by rfl) ?_; (try simp only [Act.put, zs0, zs1, zs2]))
        (refine wpD_skip (i := 13) (by exact gE rfl) (by kernel_rfl) (by kernel_rfl) (by kernel_rfl) (by rfl) ?_; (try simp only [Act.put, zs0, zs1, zs2]))
        (refine wpD_skip (i := 14) (by exact gE rfl) (by kernel_rfl) (by kernel_rfl) (by kernel_rfl) (by rfl) ?_; (try simp only [Act.put, zs0, zs1, zs2]))
        (refine wpD_skip (i := 15) (by exact gE rfl) (by kernel_rfl) (by kernel_rfl) (by kernel_rfl) (by rfl) ?_; (try simp only [Act.put, zs0, zs1, zs2]))
        (refine wpD_skip (i := 16) (by exact gE rfl) (by kernel_rfl) (by kernel_rfl) (by kernel_rfl) (by rfl) ?_; (try simp only [Act.put, zs0, zs1, zs2]))
        (refine wpD_skip (i := 17) (by exact gE rfl) (by kernel_rfl) (by kernel_rfl) (by kernel_rfl) (by rfl) ?_; (try simp only [Act.put, zs0, zs1, zs2]))
        (refine wpD_skip (i := 18) (by exact gE rfl) (by kernel_rfl) (by kernel_rfl) (by kernel_rfl) (by rfl) ?_; (try simp only [Act.put, zs0, zs1, zs2]))
        (refine wpD_skip (i := 19) (by exact gE rfl) (by kernel_rfl) (by kernel_rfl) (by kernel_rfl) (by rfl) ?_; (try simp only [Act.put, zs0, zs1, zs2]))
        (refine wpD_skip (i := 20) (by exact gE rfl) (by kernel_rfl) (by kernel_rfl) (by kernel_rfl) (by rfl) ?_; (try simp only [Act.put, zs0, zs1, zs2]))
        (refine wpD_skip (i := 21) (by exact gE rfl) (by kernel_rfl) (by kernel_rfl) (by kernel_rfl) (by rfl) ?_; (try simp only [Act.put, zs0, zs1, zs2]))
        (refine wpD_t 22 _ (by exact gE rfl) (by kernel_rfl) (by rfl) (YS.of_value (by intro _ h; (try dsimp only at h); go_simp; first | done | with_reducible rfl)) ?_; (try simp only [Act.put, zs0, zs1, zs2]))
        (refine wpD_t 23 _ (by exact gE rfl) (by kernel_rfl) (by rfl) (YS.of_value (by intro _ h; (try dsimp only at h); go_simp; first | done | with_reducible rfl)) ?_; (try simp only [Act.put, zs0, zs1, zs2]))
        refine wpD_done (by kernel_rfl) ?_ _
        rintro _ rfl
        have XZ := hX.drew
        have YZ := hY.drew
        have BZ := hB.drew
        have zZ := BZ.size
        have lx := XZ.lt
        have ly := YZ.lt
        go_wp2_with (first
          | ((refine wpl_store (by rfl) 29 _ _ (by rfl) w.heap.size (by rfl) _ (by rfl) (keyL 0 0) rfl 29 _ XZ (show (2 : Nat) = 2 from rfl) _ sizeKey (by rfl) (by simp [Value.oneCell']) ?_; intro w8 X8 s8 g8); (have Y8 := YZ.but g8 (by omega)))
          | ((refine wpl_store (by rfl) 29 _ _ (by rfl) w1.heap.size (by rfl) _ (by rfl) (keyL 0 0) rfl 29 _ Y8 (show (2 : Nat) = 2 from rfl) _ sizeKey (by rfl) (by simp [Value.oneCell']) ?_; intro w9 Y9 s9 g9); (have X9 := X8.but g9 (by omega))))
        refine bodyPost_ret (res_ccx Tryd.results32 (by rfl) (by rfl) X9 Y9 Tryd.underlying29 rfl sizeKey (show (2 : Nat) = 2 from rfl) (show (2 : Nat) = 2 from rfl) (by rfl)) rfl ?_
        exact ⟨by rw [HE.out]; rfl, (BZ.trans (g8.below zZ (Nat.le_refl _))).trans (g9.below (by omega) (by omega))⟩
      have dB : decide (g < T) = false := decide_eq_false hBB
      by_cases hC : T ≤ g - k'
      · have dC : decide (T ≤ g - k') = true := decide_eq_true hC
        have HE : Hid (opV s k' g l = .tuple #[keyV 0 0, keyV 0 0, .int .i64 17]) := opV_err (by unfold opE staleB; rw [HT.out, if_neg (by rw [HN.out]; omega), if_neg (by rw [HN.out]; omega), if_pos (by rw [dA, dB, dC]; rfl)]) (by decide)
        clear hA hBB hC
        refine wp_region_det (fun y => y = wo.drew) 24 (by kernel_rfl) rfl (by rfl) ?_
        simp only [List.replicate]
        (refine wpD_t 0 _ (by exact gE rfl) (by kernel_rfl) (by rfl) (YS.of_value (by intro _ h; (try dsimp only at h); go_simp; first | done | with_reducible rfl)) ?_; (try simp only [Act.put, zs0, zs1, zs2]))
        (refine wpD_t 1 _ (by exact gE rfl) (by kernel_rfl) (by rfl) (YS.of_value (by intro _ h; (try dsimp only at h); go_simp; first | done | with_reducible rfl)) ?_; (try simp only [Act.put, zs0, zs1, zs2]))
        (refine wpD_t 2 _ (by exact gE rfl) (by kernel_rfl) (by rfl) (YS.of_value (by intro _ h; (try dsimp only at h); go_simp; first | done | with_reducible rfl)) ?_; (try simp only [Act.put, zs0, zs1, zs2]))
        (refine wpD_t 3 _ (by exact gE rfl) (by kernel_rfl) (by rfl) (YS.of_value (by intro _ h; (try dsimp only at h); go_simp; first | done | with_reducible rfl)) ?_; (try simp only [Act.put, zs0, zs1, zs2]))
        (refine wpD_t 4 _ (by exact gE rfl) (by kernel_rfl) (by rfl) (YS.of_value (by intro _ h; (try dsimp only at h); go_simp; first | done | with_reducible rfl)) ?_; (try simp only [Act.put, zs0, zs1, zs2]))
        (refine wpD_t 5 _ (by exact gE rfl) (by kernel_rfl) (by rfl) (YS.of_value (by intro _ h; (try dsimp only at h); go_simp; first | done | with_reducible rfl)) ?_; (try simp only [Act.put, zs0, zs1, zs2]))
        (refine wpD_t 6 _ (by exact gE rfl) (by kernel_rfl) (by rfl) (YS.of_value (by intro _ h; (try dsimp only at h); go_simp; first | done | with_reducible rfl)) ?_; (try simp only [Act.put, zs0, zs1, zs2]))
        (refine wpD_t 7 _ (by exact gE rfl) (by kernel_rfl) (by rfl) (YS.of_value (by intro _ h; (try dsimp only at h); go_simp; first | done | with_reducible rfl)) ?_; (try simp only [Act.put, zs0, zs1, zs2]))
        (refine wpD_t 8 _ (by exact gE rfl) (by kernel_rfl) (by rfl) (YS.of_value (by intro _ h; (try dsimp only at h); go_simp; first | done | with_reducible rfl)) ?_; (try simp only [Act.put, zs0, zs1, zs2]))
        (refine wpD_t 9 _ (by exact gE rfl) (by kernel_rfl) (by rfl) (YS.of_value (by intro _ h; (try dsimp only at h); go_simp; first | done | with_reducible rfl)) ?_; (try simp only [Act.put, zs0, zs1, zs2]))
        (refine wpD_t 10 _ (by exact gE rfl) (by kernel_rfl) (by rfl) (YS.of_value (by intro _ h; (try dsimp only at h); go_simp; first | done | with_reducible rfl)) ?_; (try simp only [Act.put, zs0, zs1, zs2]))
        (refine wpD_t 11 _ (by exact gE rfl) (by kernel_rfl) (by rfl) (YS.of_value (by intro _ h; (try dsimp only at h); go_simp; first | done | with_reducible rfl)) ?_; (try simp only [Act.put, zs0, zs1, zs2]))
        (refine wpD_t 12 _ (by exact gE rfl) (by kernel_rfl) (by rfl) (YS.of_value (by intro _ h; (try dsimp only at h); go_simp; first | done | with_reducible rfl)) ?_; (try simp only [Act.put, zs0, zs1, zs2]))
        (refine wpD_t 13 _ (by exact gE rfl) (by kernel_rfl) (by rfl) (YS.of_value (by intro _ h; (try dsimp only at h); go_simp; first | done | with_reducible rfl)) ?_; (try simp only [Act.put, zs0, zs1, zs2]))
        (refine wpD_t 14 _ (by exact gE rfl) (by kernel_rfl) (by rfl) (YS.of_value (by intro _ h; (try dsimp only at h); go_simp; first | done | with_reducible rfl)) ?_; (try simp only [Act.put, zs0, zs1, zs2]))
        (refine wpD_t 15 _ (by exact gE rfl) (by kernel_rfl) (by rfl) (YS.of_value (by intro _ h; (try dsimp only at h); go_simp; first | done | with_reducible rfl)) ?_; (try simp only [Act.put, zs0, zs1, zs2]))
        (refine wpD_t 16 _ (by exact gE rfl) (by kernel_rfl) (by rfl) (YS.of_value (by intro _ h; (try dsimp only at h); go_simp; first | done | with_reducible rfl)) ?_; (try simp only [Act.put, zs0, zs1, zs2]))
        (refine wpD_t 17 _ (by exact gE rfl) (by kernel_rfl) (by rfl) (YS.of_value (by intro _ h; (try dsimp only at h); go_simp; first | done | with_reducible rfl)) ?_; (try simp only [Act.put, zs0, zs1, zs2]))
        (refine wpD_t 18 _ (by exact gE rfl) (by kernel_rfl) (by rfl) (YS.of_value (by intro _ h; (try dsimp only at h); go_simp; first | done | with_reducible rfl)) ?_; (try simp only [Act.put, zs0, zs1, zs2]))
        (refine wpD_t 19 _ (by exact gE rfl) (by kernel_rfl) (by rfl) (YS.of_value (by intro _ h; (try dsimp only at h); go_simp; first | done | with_reducible rfl)) ?_; (try simp only [Act.put, zs0, zs1, zs2]))
        (refine wpD_t 20 _ (by exact gE rfl) (by kernel_rfl) (by rfl) (YS.of_value (by intro _ h; (try dsimp only at h); go_simp; first | done | with_reducible rfl)) ?_; (try simp only [Act.put, zs0, zs1, zs2]))
        (refine wpD_t 21 _ (by exact gE rfl) (by kernel_rfl) (by rfl) (YS.of_value (by intro _ h; (try dsimp only at h); go_simp; first | done | with_reducible rfl)) ?_; (try simp only [Act.put, zs0, zs1, zs2]))
        (refine wpD_t 22 _ (by exact gE rfl) (by kernel_rfl) (by rfl) (YS.of_value (by intro _ h; (try dsimp only at h); go_simp; first | done | with_reducible rfl)) ?_; (try simp only [Act.put, zs0, zs1, zs2]))
        (refine wpD_t 23 _ (by exact gE rfl) (by kernel_rfl) (by rfl) (YS.of_value (by intro _ h; (try dsimp only at h); go_simp; first | done | with_reducible rfl)) ?_; (try simp only [Act.put, zs0, zs1, zs2]))
        refine wpD_done (by kernel_rfl) ?_ _
        rintro _ rfl
        have XZ := hX.drew
        have YZ := hY.drew
        have BZ := hB.drew
        have zZ := BZ.size
        have lx := XZ.lt
        have ly := YZ.lt
        go_wp2_with (first
          | ((refine wpl_store (by rfl) 29 _ _ (by rfl) w.heap.size (by rfl) _ (by rfl) (keyL 0 0) rfl 29 _ XZ (show (2 : Nat) = 2 from rfl) _ sizeKey (by rfl) (by simp [Value.oneCell']) ?_; intro w8 X8 s8 g8); (have Y8 := YZ.but g8 (by omega)))
          | ((refine wpl_store (by rfl) 29 _ _ (by rfl) w1.heap.size (by rfl) _ (by rfl) (keyL 0 0) rfl 29 _ Y8 (show (2 : Nat) = 2 from rfl) _ sizeKey (by rfl) (by simp [Value.oneCell']) ?_; intro w9 Y9 s9 g9); (have X9 := X8.but g9 (by omega))))
        refine bodyPost_ret (res_ccx Tryd.results32 (by rfl) (by rfl) X9 Y9 Tryd.underlying29 rfl sizeKey (show (2 : Nat) = 2 from rfl) (show (2 : Nat) = 2 from rfl) (by rfl)) rfl ?_
        exact ⟨by rw [HE.out]; rfl, (BZ.trans (g8.below zZ (Nat.le_refl _))).trans (g9.below (by omega) (by omega))⟩
      have dC : decide (T ≤ g - k') = false := decide_eq_false hC
      have hgT : Gn T := by obtain ⟨h0, h1⟩ := hg; exact ⟨by omega, by omega⟩
      clear hA hBB hC
      refine wp_region_det (fun y => y = wo.drew) 24 (by kernel_rfl) rfl (by rfl) ?_
      simp only [List.replicate]
      (refine wpD_t 0 _ (by exact gE rfl) (by kernel_rfl) (by rfl) (YS.of_value (by intro _ h; (try dsimp only at h); go_simp; first | done | with_reducible rfl)) ?_; (try simp only [Act.put, zs0, zs1, zs2]))
      (refine wpD_t 1 _ (by exact gE rfl) (by kernel_rfl) (by rfl) (YS.of_value (by intro _ h; (try dsimp only at h); go_simp; first | done | with_reducible rfl)) ?_; (try simp only [Act.put, zs0, zs1, zs2]))
      (refine wpD_t 2 _ (by exact gE rfl) (by kernel_rfl) (by rfl) (YS.of_value (by intro _ h; (try dsimp only at h); go_simp; first | done | with_reducible rfl)) ?_; (try simp only [Act.put, zs0, zs1, zs2]))
      (refine wpD_t 3 _ (by exact gE rfl) (by kernel_rfl) (by rfl) (YS.of_value (by intro _ h; (try dsimp only at h); go_simp; first | done | with_reducible rfl)) ?_; (try simp only [Act.put, zs0, zs1, zs2]))
      (refine wpD_t 4 _ (by exact gE rfl) (by kernel_rfl) (by rfl) (YS.of_value (by intro _ h; (try dsimp only at h); go_simp; first | done | with_reducible rfl)) ?_; (try simp only [Act.put, zs0, zs1, zs2]))
      (refine wpD_t 5 _ (by exact gE rfl) (by kernel_rfl) (by rfl) (YS.of_value (by intro _ h; (try dsimp only at h); go_simp; first | done | with_reducible rfl)) ?_; (try simp only [Act.put, zs0, zs1, zs2]))
      (refine wpD_t 6 _ (by exact gE rfl) (by kernel_rfl) (by rfl) (YS.of_value (by intro _ h; (try dsimp only at h); go_simp; first | done | with_reducible rfl)) ?_; (try simp only [Act.put, zs0, zs1, zs2]))
      (refine wpD_t 7 _ (by exact gE rfl) (by kernel_rfl) (by rfl) (YS.of_value (by intro _ h; (try dsimp only at h); go_simp; first | done | with_reducible rfl)) ?_; (try simp only [Act.put, zs0, zs1, zs2]))
      (refine wpD_t 8 _ (by exact gE rfl) (by kernel_rfl) (by rfl) (YS.of_value (by intro _ h; (try dsimp only at h); go_simp; first | done | with_reducible rfl)) ?_; (try simp only [Act.put, zs0, zs1, zs2]))
      (refine wpD_t 9 _ (by exact gE rfl) (by kernel_rfl) (by rfl) (YS.of_value (by intro _ h; (try dsimp only at h); go_simp; first | done | with_reducible rfl)) ?_; (try simp only [Act.put, zs0, zs1, zs2]))
      (refine wpD_t 10 _ (by exact gE rfl) (by kernel_rfl) (by rfl) (YS.of_value (by intro _ h; (try dsimp only at h); go_simp; first | done | with_reducible rfl)) ?_; (try simp only [Act.put, zs0, zs1, zs2]))
      (refine wpD_t 11 _ (by exact gE rfl) (by kernel_rfl) (by rfl) (YS.of_value (by intro _ h; (try dsimp only at h); go_simp; first | done | with_reducible rfl)) ?_; (try simp only [Act.put, zs0, zs1, zs2]))
      (refine wpD_t 12 _ (by exact gE rfl) (by kernel_rfl) (by rfl) (YS.of_value (by intro _ h; (try dsimp only at h); go_simp; first | done | with_reducible rfl)) ?_; (try simp only [Act.put, zs0, zs1, zs2]))
      (refine wpD_t 13 _ (by exact gE rfl) (by kernel_rfl) (by rfl) (YS.of_value (by intro _ h; (try dsimp only at h); go_simp; first | done | with_reducible rfl)) ?_; (try simp only [Act.put, zs0, zs1, zs2]))
      (refine wpD_t 14 _ (by exact gE rfl) (by kernel_rfl) (by rfl) (YS.of_value (by intro _ h; (try dsimp only at h); go_simp; first | done | with_reducible rfl)) ?_; (try simp only [Act.put, zs0, zs1, zs2]))
      (refine wpD_t 15 _ (by exact gE rfl) (by kernel_rfl) (by rfl) (YS.of_value (by intro _ h; (try dsimp only at h); go_simp; first | done | with_reducible rfl)) ?_; (try simp only [Act.put, zs0, zs1, zs2]))
      (refine wpD_t 16 _ (by exact gE rfl) (by kernel_rfl) (by rfl) (YS.of_value (by intro _ h; (try dsimp only at h); go_simp; first | done | with_reducible rfl)) ?_; (try simp only [Act.put, zs0, zs1, zs2]))
      (refine wpD_t 17 _ (by exact gE rfl) (by kernel_rfl) (by rfl) (YS.of_value (by intro _ h; (try dsimp only at h); go_simp; first | done | with_reducible rfl)) ?_; (try simp only [Act.put, zs0, zs1, zs2]))
      (refine wpD_t 18 _ (by exact gE rfl) (by kernel_rfl) (by rfl) (YS.of_value (by intro _ h; (try dsimp only at h); go_simp; first | done | with_reducible rfl)) ?_; (try simp only [Act.put, zs0, zs1, zs2]))
      (refine wpD_t 19 _ (by exact gE rfl) (by kernel_rfl) (by rfl) (YS.of_value (by intro _ h; (try dsimp only at h); go_simp; first | done | with_reducible rfl)) ?_; (try simp only [Act.put, zs0, zs1, zs2]))
      (refine wpD_t 20 _ (by exact gE rfl) (by kernel_rfl) (by rfl) (YS.of_value (by intro _ h; (try dsimp only at h); go_simp; first | done | with_reducible rfl)) ?_; (try simp only [Act.put, zs0, zs1, zs2]))
      (refine wpD_t 21 _ (by exact gE rfl) (by kernel_rfl) (by rfl) (YS.of_value (by intro _ h; (try dsimp only at h); go_simp; first | done | with_reducible rfl)) ?_; (try simp only [Act.put, zs0, zs1, zs2]))
      (refine wpD_t 22 _ (by exact gE rfl) (by kernel_rfl) (by rfl) (YS.of_value (by intro _ h; (try dsimp only at h); go_simp; first | done | with_reducible rfl)) ?_; (try simp only [Act.put, zs0, zs1, zs2]))
      (refine wpD_t 23 _ (by exact gE rfl) (by kernel_rfl) (by rfl) (YS.of_value (by intro _ h; (try dsimp only at h); go_simp; first | done | with_reducible rfl)) ?_; (try simp only [Act.put, zs0, zs1, zs2]))
      refine wpD_done (by kernel_rfl) ?_ _
      rintro _ rfl
      have hE := uint_at w2.heap.size rg l 44 8 52 8 wo.drew.drew (Rd.drew (Rd.drew hRd')) (by omega) (by omega) (by rw [HN.out]; omega) rfl rfl
      obtain ⟨G, hG⟩ : ∃ G, fB l 44 8 = G := ⟨_, rfl⟩
      rw [hG] at hE
      have l44 : (l.take 44).length = 44 := by rw [List.length_take, HN.out]; omega
      have h44 := hb.drew.drew.take 44
      have c44 : (44 : Int) ≤ c := by omega
      obtain ⟨tg, htg⟩ : ∃ tg, jtag s T (l.take 44) = tg := ⟨_, rfl⟩
      have hTg := fun W hJ hr hB => jtag_any bj s k' T g A 44 c (l.take 44) W hs hgT hJ hr l44 hB (by omega) (by omega) hcc
      rw [htg] at hTg
      have HG := Lib.hid hG
      have HTG := Lib.hid htg
      clear hG htg
      go_wp2_with fail
      refine wp_region_heldL (fun y => 0 < y.heap.size) 9 (by kernel_rfl) rfl hP.lt fun hHeld => ?_
      simp only [List.replicate]
      (refine wpH_t 0 _ (by exact gE rfl) (by kernel_rfl) (by intro _ _ _ h; exact h) (Or.inl ⟨by rfl, (by intro _ h; (try dsimp only at h); go_simp; first | done | with_reducible rfl)⟩) (by assumption) ?_; (try simp only [Act.put, zs0, zs1, zs2]))
      (refine wpH_t 2 _ (by exact gE rfl) (by kernel_rfl) (by intro _ _ _ h; exact h) (Or.inl ⟨by rfl, (by intro _ h; (try dsimp only at h); go_simp; first | done | with_reducible rfl)⟩) (by assumption) ?_; (try simp only [Act.put, zs0, zs1, zs2]))
      (refine wpH_t 3 _ (by exact gE rfl) (by kernel_rfl) (by intro _ _ _ h; exact h) (Or.inl ⟨by rfl, (by intro _ h; (try dsimp only at h); go_simp; first | done | with_reducible rfl)⟩) (by assumption) ?_; (try simp only [Act.put, zs0, zs1, zs2]))
      (refine wpH_t 4 _ (by exact gE rfl) (by kernel_rfl) (by intro _ _ _ h; exact h) (Or.inl ⟨by rfl, (by intro _ h; (try dsimp only at h); go_simp; first | done | with_reducible rfl)⟩) (by assumption) ?_; (try simp only [Act.put, zs0, zs1, zs2]))
      (refine wpH_t 5 _ (by exact gE rfl) (by kernel_rfl) (by intro _ _ _ h; exact h) (Or.inl ⟨by rfl, (by intro _ h; (try dsimp only at h); go_simp; first | done | with_reducible rfl)⟩) (by assumption) ?_; (try simp only [Act.put, zs0, zs1, zs2]))
      (refine wpH_one (i := 1) (by exact gE rfl) (by kernel_rfl) (by rfl) ?_; (go_simp; (with_reducible refine hE.mono ?_); rintro e w6 ⟨rfl, D6, g6, z6⟩; refine ⟨Nat.lt_of_lt_of_le hP.lt z6, ?_⟩); (try simp only [Act.put, zs0, zs1, zs2]))
      have g6' : But rg wo w6 := But.undrew (But.undrew g6)
      have z6' : wo.heap.size ≤ w6.heap.size := z6
      have lx := hX.lt
      have ly := hY.lt
      have lj := hJ.lt
      have lm := hM'.lt
      have lp := hP.lt
      have X6 := hX.but g6' hxr
      have Y6 := hY.but g6' hyr
      have J6 := hJ.but g6' hjr
      have R6 := hP.but g6' hpr
      have M6 := hM'.but g6' hrm
      have B6 := hB.trans (g6'.below hB.size (by omega))
      have h6 : Bs w6 0 w.heap.size A (l.take 44) := Bs.grown h44 g6 hB.size (by intro r hr; simp at hr; omega)
      have hE2 := hTg w6 J6 R6 (h6.wide (Nat.le_refl _) B6.size)
      (refine wpH_one (i := 6) (by exact gE rfl) (by kernel_rfl) (by rfl) ?_; (go_simp; (with_reducible refine hE2.mono ?_); rintro e w7 ⟨rfl, b7⟩; refine ⟨(R6.below b7 R6.lt).lt, ?_⟩); (try simp only [Act.put, zs0, zs1, zs2]))
      have X7 := X6.below b7 X6.lt
      have Y7 := Y6.below b7 Y6.lt
      have J7 := J6.below b7 J6.lt
      have R7 := R6.below b7 R6.lt
      have M7 := M6.below b7 M6.lt
      have B7 := B6.trans (b7.mono B6.size)
      have lz := R7.lt
      clear hE hE2 hTg X6 Y6 J6 R6 M6 B6 h6 h44 hb g6 g6' D6 hRd' hX hY hJ hP hM' hB q1 q2 hHeld b7
      (refine wpH_t 7 _ (by exact gE rfl) (by kernel_rfl) (by intro _ _ _ h; exact h) (Or.inl ⟨by rfl, (by intro _ h; (try dsimp only at h); go_simp; first | done | with_reducible rfl)⟩) (by assumption) ?_; (try simp only [Act.put, zs0, zs1, zs2]))
      (refine wpH_t 8 _ (by exact gE rfl) (by kernel_rfl) (by intro _ _ _ h; exact h) (Or.inl ⟨by rfl, (by intro _ h; (try dsimp only at h); go_simp; first | done | with_reducible rfl)⟩) (by assumption) ?_; (try simp only [Act.put, zs0, zs1, zs2]))
      refine wpH_done (by kernel_rfl) ?_ _
      by_cases hGt : G = tg
      · have dG : (G != tg) = false := by simpa using hGt
        have HE : Hid (opV s k' g l = .tuple #[keyV (xr x0 (padF s T N 0)) (xr x1 (padF s T N 1)), keyV (xr x2 (padF s T N 2)) (xr x3 (padF s T N 3)), .int .i64 0]) := by
          have h0 : opE s k' g l = 0 := by unfold opE staleB; rw [HT.out, HG.out, if_neg (by rw [HN.out]; omega), if_neg (by rw [HN.out]; omega), if_neg (by rw [dA, dB, dC]; decide), if_pos (by rw [HTG.out, hGt])]
          have h1 := opV_ok h0
          rw [HT.out, HNn.out, HX0.out, HX1.out, HX2.out, HX3.out] at h1
          exact h1
        have hN64 : U64 N := by rw [← HNn.out]; have := fB_rng h.byt 4 8; rw [p8] at this; exact ⟨this.1, by omega⟩
        have hMk := mask_any bj s k' T g N x0 x1 x2 x3 w7 hs hgT hN64 J7 R7
        have HE' := HE
        generalize xr x0 (padF s T N 0) = y0 at hMk HE
        generalize xr x1 (padF s T N 1) = y1 at hMk HE
        generalize xr x2 (padF s T N 2) = y2 at hMk HE
        generalize xr x3 (padF s T N 3) = y3 at hMk HE
        clear hGt HE'
        go_wp2_with (first | (refine wpl_load (by rfl) 95 _ (by rfl) mb (by rfl) 95 (fourL x0 x1 x2 x3) M7 _ Tryd.underlying95 rfl _ size4 (by rfl) ?_))
        with_reducible refine hMk.mono ?_
        rintro e w8 ⟨rfl, b8⟩
        have X8 := X7.below b8 X7.lt
        have Y8 := Y7.below b8 Y7.lt
        have B8 := B7.trans (b8.mono B7.size)
        have lx8 := X8.lt
        have ly8 := Y8.lt
        clear hMk X7 Y7 J7 R7 M7 B7 b8
        go_wp2_with (first
          | (refine wpl_alloc (by rfl) 95 (by rfl) (fourV 0 0 0 0) (fourL 0 0 0 0) zero4 rfl ?_; intro w9 M9 s9 b9)
          | (refine wpl_store (by rfl) 95 _ _ (by rfl) w8.heap.size (by rfl) _ (by rfl) (fourL y0 y1 y2 y3) rfl 95 _ M9 (show (4 : Nat) = 4 from rfl) _ size4 (by rfl) (by simp [Value.oneCell']) ?_; intro wa Ma sa ga))
        have Xa := (X8.below b9 lx8).but ga (by omega)
        have Ya := (Y8.below b9 ly8).but ga (by omega)
        have Ba := (B8.trans (b9.mono B8.size)).trans (ga.below (by have := B8.size; omega) B8.size)
        clear X8 Y8 B8 b9 ga M9
        have q0 := Ma.drew.cell (i := 0) (v := .int .u64 y0) rfl
        have q1 := Ma.drew.cell (i := 1) (v := .int .u64 y1) rfl
        have q2 := Ma.drew.cell (i := 2) (v := .int .u64 y2) rfl
        have q3 := Ma.drew.cell (i := 3) (v := .int .u64 y3) rfl
        refine wp_region_heldL (fun y => y.cell? ⟨w8.heap.size, 0, none⟩ = some (.int .u64 y0) ∧ y.cell? ⟨w8.heap.size, 1, none⟩ = some (.int .u64 y1) ∧ y.cell? ⟨w8.heap.size, 2, none⟩ = some (.int .u64 y2) ∧ y.cell? ⟨w8.heap.size, 3, none⟩ = some (.int .u64 y3)) 13 (by kernel_rfl) rfl ⟨q0, q1, q2, q3⟩ fun hHeld => ?_
        simp only [List.replicate]
        (refine wpH_t 0 _ (by exact gE rfl) (by kernel_rfl) (by intro _ _ _ h; exact h) (Or.inl ⟨by rfl, (by intro _ h; (try dsimp only at h); go_simp; first | done | with_reducible rfl)⟩) (by assumption) ?_; (try simp only [Act.put, zs0, zs1, zs2]))
        (refine wpH_t 1 _ (by exact gE rfl) (by kernel_rfl) (by intro _ _ _ h; exact h) (Or.inl ⟨by rfl, (by intro _ h; (try dsimp only at h); go_simp; first | done | with_reducible rfl)⟩) (by assumption) ?_; (try simp only [Act.put, zs0, zs1, zs2]))
        (refine wpH_t 2 _ (by exact gE rfl) (by kernel_rfl) (by intro _ _ _ h; exact h) (Or.inl ⟨by rfl, (by intro _ h; (try dsimp only at h); go_simp; first | done | with_reducible rfl)⟩) (by assumption) ?_; (try simp only [Act.put, zs0, zs1, zs2]))
        (refine wpH_t 3 _ (by exact gE rfl) (by kernel_rfl) (by intro _ _ _ h; exact h) (Or.inl ⟨by rfl, (by intro _ h; (try dsimp only at h); go_simp; first | done | with_reducible rfl)⟩) (by assumption) ?_; (try simp only [Act.put, zs0, zs1, zs2]))
        (refine wpH_t 4 _ (by exact gE rfl) (by kernel_rfl) (by intro _ _ _ h; exact h) (Or.inl ⟨by rfl, (by intro _ h; (try dsimp only at h); go_simp; first | done | with_reducible rfl)⟩) (by assumption) ?_; (try simp only [Act.put, zs0, zs1, zs2]))
        (refine wpH_t 5 _ (by exact gE rfl) (by kernel_rfl) (by intro _ _ _ h; exact h) (Or.inl ⟨by rfl, (by intro _ h; (try dsimp only at h); go_simp; first | done | with_reducible rfl)⟩) (by assumption) ?_; (try simp only [Act.put, zs0, zs1, zs2]))
        (refine wpH_t 6 _ (by exact gE rfl) (by kernel_rfl) (by intro _ _ _ h; exact h) (Or.inl ⟨by rfl, (by intro _ h; (try dsimp only at h); go_simp; first | done | with_reducible rfl)⟩) (by assumption) ?_; (try simp only [Act.put, zs0, zs1, zs2]))
        (refine wpH_t 7 _ (by exact gE rfl) (by kernel_rfl) (by intro _ _ _ h; exact h) (Or.inl ⟨by rfl, (by intro _ h; (try dsimp only at h); go_simp; first | done | with_reducible rfl)⟩) (by assumption) ?_; (try simp only [Act.put, zs0, zs1, zs2]))
        (refine wpH_t 8 _ (by exact gE rfl) (by kernel_rfl) (by intro _ _ _ h; exact h) (Or.inl ⟨by rfl, (by intro _ h; (try dsimp only at h); go_simp; first | done | with_reducible rfl)⟩) (by assumption) ?_; (try simp only [Act.put, zs0, zs1, zs2]))
        (refine wpH_t 9 _ (by exact gE rfl) (by kernel_rfl) (by intro _ _ _ h; exact h) (Or.inl ⟨by rfl, (by intro _ h; (try dsimp only at h); go_simp; first | done | with_reducible rfl)⟩) (by assumption) ?_; (try simp only [Act.put, zs0, zs1, zs2]))
        obtain ⟨wb, hwb⟩ : ∃ wb, wb = wa.drew.setCells w.heap.size 0 (keyL y0 y1) := ⟨_, rfl⟩
        have Gb : But w.heap.size wa.drew wb := by rw [hwb]; exact but_setCells _ _ _ (World.grownBy.refl _ _)
        have Xb : Blk wb w.heap.size 29 (keyL y0 y1) := by rw [hwb]; exact Xa.drew.stored (keyL y0 y1) (show (2 : Nat) = 2 from rfl)
        have Yb := Ya.drew.but Gb (by omega)
        have Mb := Ma.drew.but Gb (by omega)
        obtain ⟨wc, hwc⟩ : ∃ wc, wc = wb.setCells w1.heap.size 0 (keyL y2 y3) := ⟨_, rfl⟩
        have Gc : But w1.heap.size wb wc := by rw [hwc]; exact but_setCells _ _ _ (World.grownBy.refl _ _)
        have Yc : Blk wc w1.heap.size 29 (keyL y2 y3) := by rw [hwc]; exact Yb.stored (keyL y2 y3) (show (2 : Nat) = 2 from rfl)
        have Xc := Xb.but Gc (by omega)
        have Mc := Mb.but Gc (by omega)
        (refine wpH_one (i := 10) (by exact gE rfl) (by kernel_rfl) (by rfl) ?_; (refine wp_store_mid 29 (.tmp 4) (.tmp 91) (by rfl) w.heap.size 0 (keyL y0 y1).toArray (by rfl) (by rfl) (show World.there _ _ 0 2 from Xa.drew.there) sizeKey (all_oneCell_toArray (by simp [Value.oneCell'])) ?_; show _ ∧ _; rw [← hwb]; refine ⟨⟨Mb.cell rfl, Mb.cell rfl, Mb.cell rfl, Mb.cell rfl⟩, ?_⟩); (try simp only [Act.put, zs0, zs1, zs2]))
        (refine wpH_one (i := 11) (by exact gE rfl) (by kernel_rfl) (by rfl) ?_; (refine wp_store_mid 29 (.tmp 5) (.tmp 96) (by rfl) w1.heap.size 0 (keyL y2 y3).toArray (by rfl) (by rfl) (show World.there _ _ 0 2 from Yb.there) sizeKey (all_oneCell_toArray (by simp [Value.oneCell'])) ?_; show _ ∧ _; rw [← hwc]; refine ⟨⟨Mc.cell rfl, Mc.cell rfl, Mc.cell rfl, Mc.cell rfl⟩, ?_⟩); (try simp only [Act.put, zs0, zs1, zs2]))
        have hHc : wc.cell? ⟨w8.heap.size, 0, none⟩ = some (.int .u64 y0) ∧ wc.cell? ⟨w8.heap.size, 1, none⟩ = some (.int .u64 y1) ∧ wc.cell? ⟨w8.heap.size, 2, none⟩ = some (.int .u64 y2) ∧ wc.cell? ⟨w8.heap.size, 3, none⟩ = some (.int .u64 y3) := ⟨Mc.cell rfl, Mc.cell rfl, Mc.cell rfl, Mc.cell rfl⟩
        (refine wpH_t 12 _ (by exact gE rfl) (by kernel_rfl) (by intro _ _ _ h; exact h) (Or.inl ⟨by rfl, (by intro _ h; (try dsimp only at h); go_simp; first | done | with_reducible rfl)⟩) (by assumption) ?_; (try simp only [Act.put, zs0, zs1, zs2]))
        refine wpH_done (by kernel_rfl) ?_ _
        clear hHc hHeld q0 q1 q2 q3 Mb Mc Ma Xb Yb
        go_wp2_with fail
        refine bodyPost_ret (res_ccx Tryd.results32 (by rfl) (by rfl) Xc Yc Tryd.underlying29 rfl sizeKey (show (2 : Nat) = 2 from rfl) (show (2 : Nat) = 2 from rfl) (by rfl)) rfl ?_
        exact ⟨by rw [HE.out]; rfl, (Ba.drew.trans (Gb.below Ba.size (Nat.le_refl _))).trans (Gc.below (by have := Ba.size; have := Gb.size; show _ ≤ wb.heap.size; have h9 : wa.heap.size ≤ wb.heap.size := Gb.size; omega) (by omega))⟩
      · have dG : (G != tg) = true := by simpa using hGt
        have HE : Hid (opV s k' g l = .tuple #[keyV 0 0, keyV 0 0, .int .i64 16]) := opV_err (by unfold opE staleB; rw [HT.out, HG.out, if_neg (by rw [HN.out]; omega), if_neg (by rw [HN.out]; omega), if_neg (by rw [dA, dB, dC]; decide), if_neg (by rw [HTG.out]; exact hGt)]) (by decide)
        clear hGt
        have XZ := X7
        have YZ := Y7
        have BZ := B7
        have zZ := BZ.size
        have lx := XZ.lt
        have ly := YZ.lt
        go_wp2_with (first
          | ((refine wpl_store (by rfl) 29 _ _ (by rfl) w.heap.size (by rfl) _ (by rfl) (keyL 0 0) rfl 29 _ XZ (show (2 : Nat) = 2 from rfl) _ sizeKey (by rfl) (by simp [Value.oneCell']) ?_; intro w8 X8 s8 g8); (have Y8 := YZ.but g8 (by omega)))
          | ((refine wpl_store (by rfl) 29 _ _ (by rfl) w1.heap.size (by rfl) _ (by rfl) (keyL 0 0) rfl 29 _ Y8 (show (2 : Nat) = 2 from rfl) _ sizeKey (by rfl) (by simp [Value.oneCell']) ?_; intro w9 Y9 s9 g9); (have X9 := X8.but g9 (by omega))))
        refine bodyPost_ret (res_ccx Tryd.results32 (by rfl) (by rfl) X9 Y9 Tryd.underlying29 rfl sizeKey (show (2 : Nat) = 2 from rfl) (show (2 : Nat) = 2 from rfl) (by rfl)) rfl ?_
        exact ⟨by rw [HE.out]; rfl, (BZ.trans (g8.below zZ (Nat.le_refl _))).trans (g9.below (by omega) (by omega))⟩
end Go.Proofs.YtachhbbofemfdaaDoor
