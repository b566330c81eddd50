/- The jar of cookies: Seal of the program. -/
import Derived.Test.YtkgpeddncpdjjaaDoorCkG
namespace Go.Proofs.YtkgpeddncpdjjaaDoor
open Go.RowKit
set_option linter.unusedSimpArgs false
set_option linter.unusedVariables false
set_option maxRecDepth 100000
theorem Ow.drew {w : World} {lo c : Nat} {A : Option Addr} {l : List Int} (h : Ow w lo A c l) : Ow w.drew lo A c l := h
theorem p4 : (256 : Int) ^ 4 = 4294967296 := by decide
theorem p8 : (256 : Int) ^ 8 = 18446744073709551616 := by decide
/-- what of a cookie stands before the tag, behind j numbers -/
def sbB (g nonce y0 y1 y2 y3 : Int) : Nat → List Int
  | 0 => bytesB 4 g ++ bytesB 8 nonce
  | 1 => bytesB 4 g ++ bytesB 8 nonce ++ bytesB 8 y0
  | 2 => bytesB 4 g ++ bytesB 8 nonce ++ bytesB 8 y0 ++ bytesB 8 y1
  | 3 => bytesB 4 g ++ bytesB 8 nonce ++ bytesB 8 y0 ++ bytesB 8 y1 ++ bytesB 8 y2
  | _ => bytesB 4 g ++ bytesB 8 nonce ++ bytesB 8 y0 ++ bytesB 8 y1 ++ bytesB 8 y2 ++ bytesB 8 y3
theorem sbB_len (g nonce y0 y1 y2 y3 : Int) : (sbB g nonce y0 y1 y2 y3 0).length = 12 ∧ (sbB g nonce y0 y1 y2 y3 1).length = 20 ∧ (sbB g nonce y0 y1 y2 y3 2).length = 28 ∧ (sbB g nonce y0 y1 y2 y3 3).length = 36 ∧ (sbB g nonce y0 y1 y2 y3 4).length = 44 := by
  simp [sbB, bytesB_length]
/-- a cookie -/
def ckB (s g nonce c0 c1 s0 s1 : Int) : List Int :=
  sbB g nonce (xr c0 (padF s g nonce 0)) (xr c1 (padF s g nonce 1)) (xr s0 (padF s g nonce 2)) (xr s1 (padF s g nonce 3)) 4 ++
    bytesB 8 (jtag s g (sbB g nonce (xr c0 (padF s g nonce 0)) (xr c1 (padF s g nonce 1)) (xr s0 (padF s g nonce 2)) (xr s1 (padF s g nonce 3)) 4))
theorem ckB_len (s g nonce c0 c1 s0 s1 : Int) : (ckB s g nonce c0 c1 s0 s1).length = 52 := by
  unfold ckB
  rw [List.length_append, bytesB_length, (sbB_len _ _ _ _ _ _).2.2.2.2]
theorem gn_u64 {g : Int} (h : Gn g) : 0 ≤ g ∧ g < 18446744073709551616 := by obtain ⟨h0, h1⟩ := h; omega
open Go.RowKit
theorem app8 (A : Option Addr) (n c lo hi : Nat) (l : List Int) (x : Int) (w : World) (hn : l.length = n) (h : Bs w lo hi A l) (hh : hi ≤ w.heap.size) (hm : n ≤ 1000000) (hx : 0 ≤ x ∧ x < 18446744073709551616) :
    Calls Tryd.prog 23 #[.slice A n c, .int .u64 x, .int .i64 8] w fun e w' => ∃ A' c', e = .returned (.tuple #[.slice A' (n + 8) c', .int .i64 0]) ∧ Ow w' w.heap.size A' c' (l ++ bytesB 8 x) ∧ Below w.heap.size w w' :=
  (append_ok A n c lo hi l x 8 w hn h hh (by omega) (by omega) (by omega) (by omega) (by rw [p8]; omega)).mono fun e w' ⟨h1, h2, h3, h4⟩ => ⟨_, _, h1, h2, h4⟩
open Go.RowKit
theorem app4 (A : Option Addr) (n c lo hi : Nat) (l : List Int) (x : Int) (w : World) (hn : l.length = n) (h : Bs w lo hi A l) (hh : hi ≤ w.heap.size) (hm : n ≤ 1000000) (hx : 0 ≤ x ∧ x < 4294967296) :
    Calls Tryd.prog 23 #[.slice A n c, .int .u64 x, .int .i64 4] w fun e w' => ∃ A' c', e = .returned (.tuple #[.slice A' (n + 4) c', .int .i64 0]) ∧ Ow w' w.heap.size A' c' (l ++ bytesB 4 x) ∧ Below w.heap.size w w' :=
  (append_ok A n c lo hi l x 4 w hn h hh (by omega) (by omega) (by omega) (by omega) (by rw [p4]; omega)).mono fun e w' ⟨h1, h2, h3, h4⟩ => ⟨_, _, h1, h2, h4⟩
open Go.RowKit
theorem rapp8 (A : Option Addr) (n c lo hi : Nat) (l : List Int) (x : Int) (w : World) (hn : l.length = n) (h : Bs w lo hi A l) (hh : hi ≤ w.heap.size) (hm : n ≤ 1000000) (hx : 0 ≤ x ∧ x < 18446744073709551616) :
    Calls Tryd.prog 26 #[.slice A n c, .int .u64 x, .int .i64 8] w fun e w' => ∃ A' c', e = .returned (.tuple #[.slice A' (n + 8) c', .int .i64 0]) ∧ Ow w' w.heap.size A' c' (l ++ bytesB 8 x) ∧ Below w.heap.size w w' :=
  (rappend_ok A n c lo hi l x 8 w hn h hh (by omega) (by omega) (by omega) (by omega) (by rw [p8]; omega)).mono fun e w' ⟨A', c', h1, h2, h3, h4⟩ => ⟨A', c', h1, h2, h4⟩
open Go.RowKit
theorem rapp4 (A : Option Addr) (n c lo hi : Nat) (l : List Int) (x : Int) (w : World) (hn : l.length = n) (h : Bs w lo hi A l) (hh : hi ≤ w.heap.size) (hm : n ≤ 1000000) (hx : 0 ≤ x ∧ x < 4294967296) :
    Calls Tryd.prog 26 #[.slice A n c, .int .u64 x, .int .i64 4] w fun e w' => ∃ A' c', e = .returned (.tuple #[.slice A' (n + 4) c', .int .i64 0]) ∧ Ow w' w.heap.size A' c' (l ++ bytesB 4 x) ∧ Below w.heap.size w w' :=
  (rappend_ok A n c lo hi l x 4 w hn h hh (by omega) (by omega) (by omega) (by omega) (by rw [p4]; omega)).mono fun e w' ⟨A', c', h1, h2, h3, h4⟩ => ⟨A', c', h1, h2, h4⟩
theorem at4 (a b c d : Int) : (∀ W, (Instr.index 51 (fourV a b c d) (.int .i64 0)).run Tryd.prog W = .ok (.int .u64 a) W) ∧ (∀ W, (Instr.index 51 (fourV a b c d) (.int .i64 1)).run Tryd.prog W = .ok (.int .u64 b) W) ∧ (∀ W, (Instr.index 51 (fourV a b c d) (.int .i64 2)).run Tryd.prog W = .ok (.int .u64 c) W) ∧ (∀ W, (Instr.index 51 (fourV a b c d) (.int .i64 3)).run Tryd.prog W = .ok (.int .u64 d) W) :=
  ⟨fun _ => by kernel_rfl, fun _ => by kernel_rfl, fun _ => by kernel_rfl, fun _ => by kernel_rfl⟩
set_option maxHeartbeats 1000000 in
theorem seal_nil (c0 c1 s0 s1 nonce : Int) (w : World) : Calls Tryd.prog 11 #[.pointer none, keyV c0 c1, keyV s0 s1, .int .u64 nonce] w fun e w' => e = .returned (.slice none 0 0) ∧ Below w.heap.size w w' := by
  go_enter Tryd.func11, Tryd.ntmps11
  go_wp2_with (first
    | ((refine wpl_box (by rfl) 24 _ (by rfl) _ (keyL c0 c1) (by rfl) rfl ?_; intro w1 P1 t1 b1))
    | ((refine wpl_box (by rfl) 24 _ (by rfl) _ (keyL s0 s1) (by rfl) rfl ?_; intro w2 Q2 t2 b2)))
  go_ret
  exact ⟨rfl, b1.trans (b2.mono (by omega))⟩
open Go.RowKit
set_option maxHeartbeats 16000000 in
theorem seal_any (bj : Nat) (s k' g c0 c1 s0 s1 nonce : Int) (w : World) (hs : U64 s) (hg : Gn g) (hn : U64 nonce) (hc0 : U64 c0) (hc1 : U64 c1) (hs0 : U64 s0) (hs1 : U64 s1) (hJ : Blk w bj 50 (jarL s k' g)) (hR : Rnd w) :
    Calls Tryd.prog 11 #[.pointer (some ⟨bj, 0, none⟩), keyV c0 c1, keyV s0 s1, .int .u64 nonce] w fun e w' => ∃ A c, e = .returned (.slice A 52 c) ∧ Ow w' w.heap.size A c (ckB s g nonce c0 c1 s0 s1) ∧ Below w.heap.size w w' := by
  have hbj := hJ.lt
  have hw0 := hR.lt
  have hg5 := (two_u64 hg).2.2.2.2
  have hgu : 0 ≤ g ∧ g < 4294967296 := by obtain ⟨h0, h1⟩ := hg; omega
  have hnu : 0 ≤ nonce ∧ nonce < 18446744073709551616 := by obtain ⟨h0, h1⟩ := hn; omega
  have hMk := fun W hJ hr => mask_any bj s k' g g nonce c0 c1 s0 s1 W hs hg hn hJ hr
  have hT := fun (A : Option Addr) (c : Nat) (l : List Int) (W : World) hJ hr hl hB hc hcc => jtag_any bj s k' g g A 44 c l W hs hg hJ hr hl hB (by omega) hc hcc
  have hE : ckB s g nonce c0 c1 s0 s1 = sbB g nonce (xr c0 (padF s g nonce 0)) (xr c1 (padF s g nonce 1)) (xr s0 (padF s g nonce 2)) (xr s1 (padF s g nonce 3)) 4 ++
    bytesB 8 (jtag s g (sbB g nonce (xr c0 (padF s g nonce 0)) (xr c1 (padF s g nonce 1)) (xr s0 (padF s g nonce 2)) (xr s1 (padF s g nonce 3)) 4)) := rfl
  rw [hE]
  clear hE
  have hy0 := xr_u64 hc0 (padF_u64 s g nonce 0)
  have hy1 := xr_u64 hc1 (padF_u64 s g nonce 1)
  have hy2 := xr_u64 hs0 (padF_u64 s g nonce 2)
  have hy3 := xr_u64 hs1 (padF_u64 s g nonce 3)
  generalize xr c0 (padF s g nonce 0) = y0 at hMk hy0 ⊢
  generalize xr c1 (padF s g nonce 1) = y1 at hMk hy1 ⊢
  generalize xr s0 (padF s g nonce 2) = y2 at hMk hy2 ⊢
  generalize xr s1 (padF s g nonce 3) = y3 at hMk hy3 ⊢
  obtain ⟨l0, l1, l2, l3, l4⟩ := sbB_len g nonce y0 y1 y2 y3
  have HL := Lib.hid (And.intro l0 (And.intro l1 (And.intro l2 (And.intro l3 l4))))
  clear l0 l1 l2 l3 l4
  have hT' := fun (A : Option Addr) (c : Nat) (W : World) hJ hr hB hc hcc => hT A c (sbB g nonce y0 y1 y2 y3 4) W hJ hr HL.out.2.2.2.2 hB hc hcc
  have ht : U64 (jtag s g (sbB g nonce y0 y1 y2 y3 4)) := jtag_u64 _ _ _
  generalize jtag s g (sbB g nonce y0 y1 y2 y3 4) = tg at hT' ht ⊢
  clear hT
  obtain ⟨i0, i1, i2, i3⟩ := at4 y0 y1 y2 y3
  clear hs hn hc0 hc1 hs0 hs1
  go_enter Tryd.func11, Tryd.ntmps11
  go_wp2_with (first
    | ((refine wpl_box (by rfl) 24 _ (by rfl) _ (keyL c0 c1) (by rfl) rfl ?_; intro w1 P1 t1 b1); (have J1 := hJ.below b1 hbj); (have R1 := hR.below b1 hw0))
    | ((refine wpl_box (by rfl) 24 _ (by rfl) _ (keyL s0 s1) (by rfl) rfl ?_; intro w2 Q2 t2 b2); (have P2 := P1.below b2 (by omega)); (have J2 := J1.below b2 (by omega)); (have R2 := R1.below b2 R1.lt))
    | (refine wpl_loadf (by rfl) 3 _ (by rfl) bj 2 (by rfl) _ _ J2 _ rfl _ Tryd.underlying3 rfl ?_)
    | (go_at_call 23; ((with_reducible refine (app4 none 0 0 0 0 [] g _ rfl Bs.nil (Nat.zero_le _) (by omega) hgu).mono ?_); rintro e w3 ⟨A3, c3, rfl, O3, b3⟩)))
  rw [List.nil_append] at O3
  have P3 := P2.below b3 (by omega)
  have Q3 := Q2.below b3 (by omega)
  have J3 := J2.below b3 (by omega)
  have R3 := R2.below b3 R2.lt
  have B3 := (b1.trans (b2.mono (by omega))).trans (b3.mono (by omega))
  have z3 := b3.size
  clear P1 P2 Q2 J1 J2 R1 R2 b1 b2 b3 hJ hR
  have hE := app8 A3 4 c3 _ _ (bytesB 4 g) nonce w3 (bytesB_length _ _) O3.bs (Nat.le_refl _) (by omega) hnu
  go_wp2_with fail
  with_reducible refine hE.mono ?_
  rintro e w4 ⟨A4, c4, rfl, O4, b4⟩
  have O4' : Ow w4 w3.heap.size A4 c4 (sbB g nonce y0 y1 y2 y3 0) := O4
  have P4 := P3.below b4 (by omega)
  have Q4 := Q3.below b4 (by omega)
  have J4 := J3.below b4 (by omega)
  have R4 := R3.below b4 R3.lt
  have B4 := B3.trans (b4.mono B3.size)
  have z4 := b4.size
  clear P3 Q3 J3 R3 B3 b4 O3 O4 hE
  go_wp2_with fail
  have q0 := P4.drew.cell (i := 0) (v := .int .u64 c0) rfl
  have q1 := P4.drew.cell (i := 1) (v := .int .u64 c1) rfl
  have q2 := Q4.drew.cell (i := 0) (v := .int .u64 s0) rfl
  have q3 := Q4.drew.cell (i := 1) (v := .int .u64 s1) rfl
  have q4 := J4.drew.cell (i := 2) (v := .int .i64 g) rfl
  refine wp_region_heldL (fun y => y.cell? ⟨w.heap.size, 0, none⟩ = some (.int .u64 c0) ∧ y.cell? ⟨w.heap.size, 1, none⟩ = some (.int .u64 c1) ∧ y.cell? ⟨w1.heap.size, 0, none⟩ = some (.int .u64 s0) ∧ y.cell? ⟨w1.heap.size, 1, none⟩ = some (.int .u64 s1) ∧ y.cell? ⟨bj, 2, none⟩ = some (.int .i64 g)) 17 (by kernel_rfl) rfl ⟨q0, q1, q2, q3, q4⟩ fun hHeld => ?_
  simp only [List.replicate]
  (refine wpH_take (i := 0) (v := _) (by simp only [List.getElem?_toArray, List.getElem?_cons_succ, List.getElem?_cons_zero]; rfl) (by kernel_rfl) (by kernel_rfl) (by kernel_rfl) (by intro _ _ _ h; exact h) (Or.inl ⟨by rfl, (by intro w' hSw; (try dsimp only at hSw); go_simp; first | done | with_reducible rfl)⟩) (by assumption) ?_; (try simp only [Act.put, List.setIfInBounds_toArray, List.set_cons_zero, List.set_cons_succ]))
  (refine wpH_take (i := 1) (v := _) (by simp only [List.getElem?_toArray, List.getElem?_cons_succ, List.getElem?_cons_zero]; rfl) (by kernel_rfl) (by kernel_rfl) (by kernel_rfl) (by intro _ _ _ h; exact h) (Or.inl ⟨by rfl, (by intro w' hSw; (try dsimp only at hSw); go_simp; first | done | with_reducible rfl)⟩) (by assumption) ?_; (try simp only [Act.put, List.setIfInBounds_toArray, List.set_cons_zero, List.set_cons_succ]))
  (refine wpH_take (i := 2) (v := _) (by simp only [List.getElem?_toArray, List.getElem?_cons_succ, List.getElem?_cons_zero]; rfl) (by kernel_rfl) (by kernel_rfl) (by kernel_rfl) (by intro _ _ _ h; exact h) (Or.inl ⟨by rfl, (by intro w' hSw; (try dsimp only at hSw); go_simp; first | done | with_reducible rfl)⟩) (by assumption) ?_; (try simp only [Act.put, List.setIfInBounds_toArray, List.set_cons_zero, List.set_cons_succ]))
  (refine wpH_take (i := 3) (v := _) (by simp only [List.getElem?_toArray, List.getElem?_cons_succ, List.getElem?_cons_zero]; rfl) (by kernel_rfl) (by kernel_rfl) (by kernel_rfl) (by intro _ _ _ h; exact h) (Or.inl ⟨by rfl, (by intro w' hSw; (try dsimp only at hSw); go_simp; first | done | with_reducible rfl)⟩) (by assumption) ?_; (try simp only [Act.put, List.setIfInBounds_toArray, List.set_cons_zero, List.set_cons_succ]))
  (refine wpH_take (i := 4) (v := _) (by simp only [List.getElem?_toArray, List.getElem?_cons_succ, List.getElem?_cons_zero]; rfl) (by kernel_rfl) (by kernel_rfl) (by kernel_rfl) (by intro _ _ _ h; exact h) (Or.inl ⟨by rfl, (by intro w' hSw; (try dsimp only at hSw); go_simp; first | done | with_reducible rfl)⟩) (by assumption) ?_; (try simp only [Act.put, List.setIfInBounds_toArray, List.set_cons_zero, List.set_cons_succ]))
  (refine wpH_take (i := 5) (v := _) (by simp only [List.getElem?_toArray, List.getElem?_cons_succ, List.getElem?_cons_zero]; rfl) (by kernel_rfl) (by kernel_rfl) (by kernel_rfl) (by intro _ _ _ h; exact h) (Or.inl ⟨by rfl, (by intro w' hSw; (try dsimp only at hSw); go_simp; first | done | with_reducible rfl)⟩) (by assumption) ?_; (try simp only [Act.put, List.setIfInBounds_toArray, List.set_cons_zero, List.set_cons_succ]))
  (refine wpH_take (i := 6) (v := _) (by simp only [List.getElem?_toArray, List.getElem?_cons_succ, List.getElem?_cons_zero]; rfl) (by kernel_rfl) (by kernel_rfl) (by kernel_rfl) (by intro _ _ _ h; exact h) (Or.inl ⟨by rfl, (by intro w' hSw; (try dsimp only at hSw); go_simp; first | done | with_reducible rfl)⟩) (by assumption) ?_; (try simp only [Act.put, List.setIfInBounds_toArray, List.set_cons_zero, List.set_cons_succ]))
  (refine wpH_take (i := 7) (v := _) (by simp only [List.getElem?_toArray, List.getElem?_cons_succ, List.getElem?_cons_zero]; rfl) (by kernel_rfl) (by kernel_rfl) (by kernel_rfl) (by intro _ _ _ h; exact h) (Or.inl ⟨by rfl, (by intro w' hSw; (try dsimp only at hSw); go_simp; first | done | with_reducible rfl)⟩) (by assumption) ?_; (try simp only [Act.put, List.setIfInBounds_toArray, List.set_cons_zero, List.set_cons_succ]))
  (refine wpH_take (i := 8) (v := _) (by simp only [List.getElem?_toArray, List.getElem?_cons_succ, List.getElem?_cons_zero]; rfl) (by kernel_rfl) (by kernel_rfl) (by kernel_rfl) (by intro _ _ _ h; exact h) (Or.inl ⟨by rfl, (by intro w' hSw; (try dsimp only at hSw); go_simp; first | done | with_reducible rfl)⟩) (by assumption) ?_; (try simp only [Act.put, List.setIfInBounds_toArray, List.set_cons_zero, List.set_cons_succ]))
  (refine wpH_take (i := 9) (v := _) (by simp only [List.getElem?_toArray, List.getElem?_cons_succ, List.getElem?_cons_zero]; rfl) (by kernel_rfl) (by kernel_rfl) (by kernel_rfl) (by intro _ _ _ h; exact h) (Or.inl ⟨by rfl, (by intro w' hSw; (try dsimp only at hSw); go_simp; first | done | with_reducible rfl)⟩) (by assumption) ?_; (try simp only [Act.put, List.setIfInBounds_toArray, List.set_cons_zero, List.set_cons_succ]))
  (refine wpH_take (i := 10) (v := _) (by simp only [List.getElem?_toArray, List.getElem?_cons_succ, List.getElem?_cons_zero]; rfl) (by kernel_rfl) (by kernel_rfl) (by kernel_rfl) (by intro _ _ _ h; exact h) (Or.inl ⟨by rfl, (by intro w' hSw; (try dsimp only at hSw); go_simp; first | done | with_reducible rfl)⟩) (by assumption) ?_; (try simp only [Act.put, List.setIfInBounds_toArray, List.set_cons_zero, List.set_cons_succ]))
  (refine wpH_take (i := 11) (v := _) (by simp only [List.getElem?_toArray, List.getElem?_cons_succ, List.getElem?_cons_zero]; rfl) (by kernel_rfl) (by kernel_rfl) (by kernel_rfl) (by intro _ _ _ h; exact h) (Or.inl ⟨by rfl, (by intro w' hSw; (try dsimp only at hSw); go_simp; first | done | with_reducible rfl)⟩) (by assumption) ?_; (try simp only [Act.put, List.setIfInBounds_toArray, List.set_cons_zero, List.set_cons_succ]))
  (refine wpH_take (i := 12) (v := _) (by simp only [List.getElem?_toArray, List.getElem?_cons_succ, List.getElem?_cons_zero]; rfl) (by kernel_rfl) (by kernel_rfl) (by kernel_rfl) (by intro _ _ _ h; exact h) (Or.inl ⟨by rfl, (by intro w' hSw; (try dsimp only at hSw); go_simp; first | done | with_reducible rfl)⟩) (by assumption) ?_; (try simp only [Act.put, List.setIfInBounds_toArray, List.set_cons_zero, List.set_cons_succ]))
  (refine wpH_take (i := 13) (v := _) (by simp only [List.getElem?_toArray, List.getElem?_cons_succ, List.getElem?_cons_zero]; rfl) (by kernel_rfl) (by kernel_rfl) (by kernel_rfl) (by intro _ _ _ h; exact h) (Or.inl ⟨by rfl, (by intro w' hSw; (try dsimp only at hSw); go_simp; first | done | with_reducible rfl)⟩) (by assumption) ?_; (try simp only [Act.put, List.setIfInBounds_toArray, List.set_cons_zero, List.set_cons_succ]))
  (refine wpH_take (i := 14) (v := _) (by simp only [List.getElem?_toArray, List.getElem?_cons_succ, List.getElem?_cons_zero]; rfl) (by kernel_rfl) (by kernel_rfl) (by kernel_rfl) (by intro _ _ _ h; exact h) (Or.inl ⟨by rfl, (by intro w' hSw; (try dsimp only at hSw); go_simp; first | done | with_reducible rfl)⟩) (by assumption) ?_; (try simp only [Act.put, List.setIfInBounds_toArray, List.set_cons_zero, List.set_cons_succ]))
  (refine wpH_take (i := 16) (v := _) (by simp only [List.getElem?_toArray, List.getElem?_cons_succ, List.getElem?_cons_zero]; rfl) (by kernel_rfl) (by kernel_rfl) (by kernel_rfl) (by intro _ _ _ h; exact h) (Or.inl ⟨by rfl, (by intro w' hSw; (try dsimp only at hSw); go_simp; first | done | with_reducible rfl)⟩) (by assumption) ?_; (try simp only [Act.put, List.setIfInBounds_toArray, List.set_cons_zero, List.set_cons_succ]))
  (refine wpH_one (i := 15) (by simp only [List.getElem?_toArray, List.getElem?_cons_succ, List.getElem?_cons_zero]; rfl) (by kernel_rfl) (by rfl) ?_; (go_simp; (with_reducible refine (hMk w4.drew J4.drew R4.drew).mono ?_); rintro e w5 ⟨rfl, b5⟩; refine ⟨⟨(P4.drew.below b5 P4.lt).cell rfl, (P4.drew.below b5 P4.lt).cell rfl, (Q4.drew.below b5 Q4.lt).cell rfl, (Q4.drew.below b5 Q4.lt).cell rfl, (J4.drew.below b5 J4.lt).cell rfl⟩, ?_⟩); (try simp only [Act.put, List.setIfInBounds_toArray, List.set_cons_zero, List.set_cons_succ]))
  refine wpH_done (by kernel_rfl) ?_ _
  have J5 := J4.drew.below b5 J4.lt
  have R5 := R4.drew.below b5 R4.lt
  have O5 := O4'.drew.below b5 (Nat.le_refl _)
  have B5 := B4.drew.trans (b5.mono B4.size)
  have z5 : w4.heap.size ≤ w5.heap.size := b5.size
  clear hHeld q0 q1 q2 q3 q4 P4 Q4 J4 R4 O4' B4 b5 hMk
  have O5' := (O5.wide (lo' := w.heap.size) (by omega))
  clear O5
  go_wp2_with fail
  go_loopw [9, 46] (fun bv i wr => ∃ k : Nat, k ≤ 4 ∧ i = .int .i64 k ∧ (∃ A c N, bv = .slice A N c ∧ N = 12 + 8 * k ∧ Ow wr w.heap.size A c (sbB g nonce y0 y1 y2 y3 k)) ∧ Blk wr bj 50 (jarL s k' g) ∧ Rnd wr ∧ Below w.heap.size w wr) (fun _ i _ => 4 - (intOf i).toNat)
  case atStart => exact ⟨0, by omega, rfl, ⟨A4, c4, 12, rfl, rfl, O5'⟩, J5, R5, B5⟩
  case round =>
    obtain ⟨k, hk, rfl, ⟨A, c, N, rfl, hN, hO⟩, hJ, hR, hB⟩ := hrel
    obtain ⟨wo, rfl⟩ : ∃ wo : World, wo = wr := ⟨wr, rfl⟩
    have zo := hB.size
    clear J5 R5 B5 O5'
    have : k = 0 ∨ k = 1 ∨ k = 2 ∨ k = 3 ∨ k = 4 := by omega
    rcases this with rfl | rfl | rfl | rfl | rfl
    · skip
      obtain rfl : N = 12 := hN
      have hE := app8 A 12 c _ _ (sbB g nonce y0 y1 y2 y3 0) y0 wo HL.out.1 hO.bs (Nat.le_refl _) (by omega) (by obtain ⟨h0, h1⟩ := hy0; omega)
      go_wp2_with fail
      with_reducible refine hE.mono ?_
      rintro e w6 ⟨A6, c6, rfl, O6, b6⟩
      clear hE
      go_wp2_with fail
      exact ⟨⟨1, by omega, rfl, ⟨A6, c6, _, rfl, rfl, O6.wide zo⟩, hJ.below b6 hJ.lt, hR.below b6 hR.lt, hB.trans (b6.mono zo)⟩, by simp [intOf] <;> decide⟩
    · skip
      obtain rfl : N = 20 := hN
      have hE := app8 A 20 c _ _ (sbB g nonce y0 y1 y2 y3 1) y1 wo HL.out.2.1 hO.bs (Nat.le_refl _) (by omega) (by obtain ⟨h0, h1⟩ := hy1; omega)
      go_wp2_with fail
      with_reducible refine hE.mono ?_
      rintro e w6 ⟨A6, c6, rfl, O6, b6⟩
      clear hE
      go_wp2_with fail
      exact ⟨⟨2, by omega, rfl, ⟨A6, c6, _, rfl, rfl, O6.wide zo⟩, hJ.below b6 hJ.lt, hR.below b6 hR.lt, hB.trans (b6.mono zo)⟩, by simp [intOf] <;> decide⟩
    · skip
      obtain rfl : N = 28 := hN
      have hE := app8 A 28 c _ _ (sbB g nonce y0 y1 y2 y3 2) y2 wo HL.out.2.2.1 hO.bs (Nat.le_refl _) (by omega) (by obtain ⟨h0, h1⟩ := hy2; omega)
      go_wp2_with fail
      with_reducible refine hE.mono ?_
      rintro e w6 ⟨A6, c6, rfl, O6, b6⟩
      clear hE
      go_wp2_with fail
      exact ⟨⟨3, by omega, rfl, ⟨A6, c6, _, rfl, rfl, O6.wide zo⟩, hJ.below b6 hJ.lt, hR.below b6 hR.lt, hB.trans (b6.mono zo)⟩, by simp [intOf] <;> decide⟩
    · skip
      obtain rfl : N = 36 := hN
      have hE := app8 A 36 c _ _ (sbB g nonce y0 y1 y2 y3 3) y3 wo HL.out.2.2.2.1 hO.bs (Nat.le_refl _) (by omega) (by obtain ⟨h0, h1⟩ := hy3; omega)
      go_wp2_with fail
      with_reducible refine hE.mono ?_
      rintro e w6 ⟨A6, c6, rfl, O6, b6⟩
      clear hE
      go_wp2_with fail
      exact ⟨⟨4, by omega, rfl, ⟨A6, c6, _, rfl, rfl, O6.wide zo⟩, hJ.below b6 hJ.lt, hR.below b6 hR.lt, hB.trans (b6.mono zo)⟩, by simp [intOf] <;> decide⟩
    · obtain rfl : N = 44 := hN
      have hcl := hO.cap_le
      have hcm := hO.cap_max
      rw [HL.out.2.2.2.2] at hcl
      have hE := hT' A c wo hJ hR (hO.bs.wide (Nat.zero_le _) (Nat.le_refl _)) hcl hcm
      go_wp2_with (first | (refine wpl_loadf (by rfl) 3 _ (by rfl) bj 2 (by rfl) _ _ hJ _ rfl _ Tryd.underlying3 rfl ?_))
      with_reducible refine hE.mono ?_
      rintro e w6 ⟨rfl, b6⟩
      have O6 := hO.below b6 (Nat.le_refl _)
      have B6 := hB.trans (b6.mono zo)
      have hE2 := app8 A 44 c _ _ _ tg w6 HL.out.2.2.2.2 O6.bs (Nat.le_refl _) (by omega) (by obtain ⟨h0, h1⟩ := ht; omega)
      clear hE hO hJ hR hB b6
      go_wp2_with fail
      with_reducible refine hE2.mono ?_
      rintro e w7 ⟨A7, c7, rfl, O7, b7⟩
      go_wp2_with fail
      go_ret
      exact ⟨A7, c7, rfl, O7.wide B6.size, B6.trans (b7.mono B6.size)⟩
end Go.Proofs.YtkgpeddncpdjjaaDoor
