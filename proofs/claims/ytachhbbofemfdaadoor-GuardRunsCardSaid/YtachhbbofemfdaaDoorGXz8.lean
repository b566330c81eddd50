/- The jar of cookies: Seal of the program. Authenticated messages: Find, Auth and Split of the reference; Find in one statement; mac.Check; clone and identifier. Authenticated messages: identifier, seal. Authenticated messages: Decode in one statement, split, proved. Authenticated messages: proved; of a message that was sealed, what split reads. -/
import Derived.Test.YtachhbbofemfdaaDoorGXz7
import Derived.Test.YtachhbbofemfdaaDoorGXz3
import Derived.Test.YtachhbbofemfdaaDoorGXz6
namespace Go.Proofs.YtachhbbofemfdaaDoor
open Go.RowKit
set_option linter.unusedSimpArgs false
set_option linter.unusedVariables false
set_option maxRecDepth 100000
theorem Ow.drew {w : World} {lo c : Nat} {A : Option Addr} {l : List Int} (h : Ow w lo A c l) : Ow w.drew lo A c l := h
theorem p4 : (256 : Int) ^ 4 = 4294967296 := by decide
theorem p8 : (256 : Int) ^ 8 = 18446744073709551616 := by decide
/-- what of a cookie stands before the tag, behind j numbers -/
def sbB (g nonce y0 y1 y2 y3 : Int) : Nat → List Int
  | 0 => bytesB 4 g ++ bytesB 8 nonce
  | 1 => bytesB 4 g ++ bytesB 8 nonce ++ bytesB 8 y0
  | 2 => bytesB 4 g ++ bytesB 8 nonce ++ bytesB 8 y0 ++ bytesB 8 y1
  | 3 => bytesB 4 g ++ bytesB 8 nonce ++ bytesB 8 y0 ++ bytesB 8 y1 ++ bytesB 8 y2
  | _ => bytesB 4 g ++ bytesB 8 nonce ++ bytesB 8 y0 ++ bytesB 8 y1 ++ bytesB 8 y2 ++ bytesB 8 y3
theorem sbB_len (g nonce y0 y1 y2 y3 : Int) : (sbB g nonce y0 y1 y2 y3 0).length = 12 ∧ (sbB g nonce y0 y1 y2 y3 1).length = 20 ∧ (sbB g nonce y0 y1 y2 y3 2).length = 28 ∧ (sbB g nonce y0 y1 y2 y3 3).length = 36 ∧ (sbB g nonce y0 y1 y2 y3 4).length = 44 := by
  simp [sbB, bytesB_length]
/-- a cookie -/
def ckB (s g nonce c0 c1 s0 s1 : Int) : List Int :=
  sbB g nonce (xr c0 (padF s g nonce 0)) (xr c1 (padF s g nonce 1)) (xr s0 (padF s g nonce 2)) (xr s1 (padF s g nonce 3)) 4 ++
    bytesB 8 (jtag s g (sbB g nonce (xr c0 (padF s g nonce 0)) (xr c1 (padF s g nonce 1)) (xr s0 (padF s g nonce 2)) (xr s1 (padF s g nonce 3)) 4))
theorem ckB_len (s g nonce c0 c1 s0 s1 : Int) : (ckB s g nonce c0 c1 s0 s1).length = 52 := by
  unfold ckB
  rw [List.length_append, bytesB_length, (sbB_len _ _ _ _ _ _).2.2.2.2]
open Go.RowKit
theorem app8 (A : Option Addr) (n c lo hi : Nat) (l : List Int) (x : Int) (w : World) (hn : l.length = n) (h : Bs w lo hi A l) (hh : hi ≤ w.heap.size) (hm : n ≤ 1000000) (hx : 0 ≤ x ∧ x < 18446744073709551616) :
    Calls Tryd.prog 45 #[.slice A n c, .int .u64 x, .int .i64 8] w fun e w' => ∃ A' c', e = .returned (.tuple #[.slice A' (n + 8) c', .int .i64 0]) ∧ Ow w' w.heap.size A' c' (l ++ bytesB 8 x) ∧ Below w.heap.size w w' :=
  (append_ok A n c lo hi l x 8 w hn h hh (by omega) (by omega) (by omega) (by omega) (by rw [p8]; omega)).mono fun e w' ⟨h1, h2, h3, h4⟩ => ⟨_, _, h1, h2, h4⟩
open Go.RowKit
theorem app4 (A : Option Addr) (n c lo hi : Nat) (l : List Int) (x : Int) (w : World) (hn : l.length = n) (h : Bs w lo hi A l) (hh : hi ≤ w.heap.size) (hm : n ≤ 1000000) (hx : 0 ≤ x ∧ x < 4294967296) :
    Calls Tryd.prog 45 #[.slice A n c, .int .u64 x, .int .i64 4] w fun e w' => ∃ A' c', e = .returned (.tuple #[.slice A' (n + 4) c', .int .i64 0]) ∧ Ow w' w.heap.size A' c' (l ++ bytesB 4 x) ∧ Below w.heap.size w w' :=
  (append_ok A n c lo hi l x 4 w hn h hh (by omega) (by omega) (by omega) (by omega) (by rw [p4]; omega)).mono fun e w' ⟨h1, h2, h3, h4⟩ => ⟨_, _, h1, h2, h4⟩
open Go.RowKit
theorem rapp8 (A : Option Addr) (n c lo hi : Nat) (l : List Int) (x : Int) (w : World) (hn : l.length = n) (h : Bs w lo hi A l) (hh : hi ≤ w.heap.size) (hm : n ≤ 1000000) (hx : 0 ≤ x ∧ x < 18446744073709551616) :
    Calls Tryd.prog 50 #[.slice A n c, .int .u64 x, .int .i64 8] w fun e w' => ∃ A' c', e = .returned (.tuple #[.slice A' (n + 8) c', .int .i64 0]) ∧ Ow w' w.heap.size A' c' (l ++ bytesB 8 x) ∧ Below w.heap.size w w' :=
  (rappend_ok A n c lo hi l x 8 w hn h hh (by omega) (by omega) (by omega) (by omega) (by rw [p8]; omega)).mono fun e w' ⟨A', c', h1, h2, h3, h4⟩ => ⟨A', c', h1, h2, h4⟩
open Go.RowKit
theorem rapp4 (A : Option Addr) (n c lo hi : Nat) (l : List Int) (x : Int) (w : World) (hn : l.length = n) (h : Bs w lo hi A l) (hh : hi ≤ w.heap.size) (hm : n ≤ 1000000) (hx : 0 ≤ x ∧ x < 4294967296) :
    Calls Tryd.prog 50 #[.slice A n c, .int .u64 x, .int .i64 4] w fun e w' => ∃ A' c', e = .returned (.tuple #[.slice A' (n + 4) c', .int .i64 0]) ∧ Ow w' w.heap.size A' c' (l ++ bytesB 4 x) ∧ Below w.heap.size w w' :=
  (rappend_ok A n c lo hi l x 4 w hn h hh (by omega) (by omega) (by omega) (by omega) (by rw [p4]; omega)).mono fun e w' ⟨A', c', h1, h2, h3, h4⟩ => ⟨A', c', h1, h2, h4⟩
theorem at4 (a b c d : Int) : (∀ W, (Instr.index 95 (fourV a b c d) (.int .i64 0)).run Tryd.prog W = .ok (.int .u64 a) W) ∧ (∀ W, (Instr.index 95 (fourV a b c d) (.int .i64 1)).run Tryd.prog W = .ok (.int .u64 b) W) ∧ (∀ W, (Instr.index 95 (fourV a b c d) (.int .i64 2)).run Tryd.prog W = .ok (.int .u64 c) W) ∧ (∀ W, (Instr.index 95 (fourV a b c d) (.int .i64 3)).run Tryd.prog W = .ok (.int .u64 d) W) :=
  ⟨fun _ => by kernel_rfl, fun _ => by kernel_rfl, fun _ => by kernel_rfl, fun _ => by kernel_rfl⟩
open Go.RowKit
set_option maxHeartbeats 16000000 in
theorem seal_any (bj : Nat) (s k' g c0 c1 s0 s1 nonce : Int) (w : World) (hs : U64 s) (hg : Gn g) (hn : U64 nonce) (hc0 : U64 c0) (hc1 : U64 c1) (hs0 : U64 s0) (hs1 : U64 s1) (hJ : Blk w bj 84 (jarL s k' g)) (hR : Rnd w) :
    Calls Tryd.prog 19 #[.pointer (some ⟨bj, 0, none⟩), keyV c0 c1, keyV s0 s1, .int .u64 nonce] w fun e w' => ∃ A c, e = .returned (.slice A 52 c) ∧ Ow w' w.heap.size A c (ckB s g nonce c0 c1 s0 s1) ∧ Below w.heap.size w w' := by
  have hbj := hJ.lt
  have hw0 := hR.lt
  have hg5 := (two_u64 hg).2.2.2.2
  have hgu : 0 ≤ g ∧ g < 4294967296 := by obtain ⟨h0, h1⟩ := hg; omega
  have hnu : 0 ≤ nonce ∧ nonce < 18446744073709551616 := by obtain ⟨h0, h1⟩ := hn; omega
  have hMk := fun W hJ hr => mask_any bj s k' g g nonce c0 c1 s0 s1 W hs hg hn hJ hr
  have hT := fun (A : Option Addr) (c : Nat) (l : List Int) (W : World) hJ hr hl hB hc hcc => jtag_any bj s k' g g A 44 c l W hs hg hJ hr hl hB (by omega) hc hcc
  have hE : ckB s g nonce c0 c1 s0 s1 = sbB g nonce (xr c0 (padF s g nonce 0)) (xr c1 (padF s g nonce 1)) (xr s0 (padF s g nonce 2)) (xr s1 (padF s g nonce 3)) 4 ++
    bytesB 8 (jtag s g (sbB g nonce (xr c0 (padF s g nonce 0)) (xr c1 (padF s g nonce 1)) (xr s0 (padF s g nonce 2)) (xr s1 (padF s g nonce 3)) 4)) := rfl
  rw [hE]
  clear hE
  have hy0 := xr_u64 hc0 (padF_u64 s g nonce 0)
  have hy1 := xr_u64 hc1 (padF_u64 s g nonce 1)
  have hy2 := xr_u64 hs0 (padF_u64 s g nonce 2)
  have hy3 := xr_u64 hs1 (padF_u64 s g nonce 3)
  generalize xr c0 (padF s g nonce 0) = y0 at hMk hy0 ⊢
  generalize xr c1 (padF s g nonce 1) = y1 at hMk hy1 ⊢
  generalize xr s0 (padF s g nonce 2) = y2 at hMk hy2 ⊢
  generalize xr s1 (padF s g nonce 3) = y3 at hMk hy3 ⊢
  obtain ⟨l0, l1, l2, l3, l4⟩ := sbB_len g nonce y0 y1 y2 y3
  have HL := Lib.hid (And.intro l0 (And.intro l1 (And.intro l2 (And.intro l3 l4))))
  clear l0 l1 l2 l3 l4
  have hT' := fun (A : Option Addr) (c : Nat) (W : World) hJ hr hB hc hcc => hT A c (sbB g nonce y0 y1 y2 y3 4) W hJ hr HL.out.2.2.2.2 hB hc hcc
  have ht : U64 (jtag s g (sbB g nonce y0 y1 y2 y3 4)) := jtag_u64 _ _ _
  generalize jtag s g (sbB g nonce y0 y1 y2 y3 4) = tg at hT' ht ⊢
  clear hT
  obtain ⟨i0, i1, i2, i3⟩ := at4 y0 y1 y2 y3
  clear hs hn hc0 hc1 hs0 hs1
  go_enter Tryd.func19, Tryd.ntmps19
  go_wp2_with (first
    | ((refine wpl_box (by rfl) 29 _ (by rfl) _ (keyL c0 c1) (by rfl) rfl ?_; intro w1 P1 t1 b1); (have J1 := hJ.below b1 hbj); (have R1 := hR.below b1 hw0))
    | ((refine wpl_box (by rfl) 29 _ (by rfl) _ (keyL s0 s1) (by rfl) rfl ?_; intro w2 Q2 t2 b2); (have P2 := P1.below b2 (by omega)); (have J2 := J1.below b2 (by omega)); (have R2 := R1.below b2 R1.lt))
    | (refine wpl_loadf (by rfl) 3 _ (by rfl) bj 2 (by rfl) _ _ J2 _ rfl _ Tryd.underlying3 rfl ?_)
    | (go_at_call 45; ((with_reducible refine (app4 none 0 0 0 0 [] g _ rfl Bs.nil (Nat.zero_le _) (by omega) hgu).mono ?_); rintro e w3 ⟨A3, c3, rfl, O3, b3⟩)))
  rw [List.nil_append] at O3
  have P3 := P2.below b3 (by omega)
  have Q3 := Q2.below b3 (by omega)
  have J3 := J2.below b3 (by omega)
  have R3 := R2.below b3 R2.lt
  have B3 := (b1.trans (b2.mono (by omega))).trans (b3.mono (by omega))
  have z3 := b3.size
  clear P1 P2 Q2 J1 J2 R1 R2 b1 b2 b3 hJ hR
  have hE := app8 A3 4 c3 _ _ (bytesB 4 g) nonce w3 (bytesB_length _ _) O3.bs (Nat.le_refl _) (by omega) hnu
  go_wp2_with fail
  with_reducible refine hE.mono ?_
  rintro e w4 ⟨A4, c4, rfl, O4, b4⟩
  have O4' : Ow w4 w3.heap.size A4 c4 (sbB g nonce y0 y1 y2 y3 0) := O4
  have P4 := P3.below b4 (by omega)
  have Q4 := Q3.below b4 (by omega)
  have J4 := J3.below b4 (by omega)
  have R4 := R3.below b4 R3.lt
  have B4 := B3.trans (b4.mono B3.size)
  have z4 := b4.size
  clear P3 Q3 J3 R3 B3 b4 O3 O4 hE
  go_wp2_with fail
  have q0 := P4.drew.cell (i := 0) (v := .int .u64 c0) rfl
  have q1 := P4.drew.cell (i := 1) (v := .int .u64 c1) rfl
  have q2 := Q4.drew.cell (i := 0) (v := .int .u64 s0) rfl
  have q3 := Q4.drew.cell (i := 1) (v := .int .u64 s1) rfl
  have q4 := J4.drew.cell (i := 2) (v := .int .i64 g) rfl
  refine wp_region_heldL (fun y => y.cell? ⟨w.heap.size, 0, none⟩ = some (.int .u64 c0) ∧ y.cell? ⟨w.heap.size, 1, none⟩ = some (.int .u64 c1) ∧ y.cell? ⟨w1.heap.size, 0, none⟩ = some (.int .u64 s0) ∧ y.cell? ⟨w1.heap.size, 1, none⟩ = some (.int .u64 s1) ∧ y.cell? ⟨bj, 2, none⟩ = some (.int .i64 g)) 17 (by kernel_rfl) rfl ⟨q0, q1, q2, q3, q4⟩ fun hHeld => ?_
  simp only [List.replicate]
  (refine wpH_t 0 _ (by exact gE rfl) (by kernel_rfl) (by intro _ _ _ h; exact h) (Or.inl ⟨by rfl, (by intro _ h; (try dsimp only at h); go_simp; first | done | with_reducible rfl)⟩) (by assumption) ?_; (try simp only [Act.put, zs0, zs1, zs2]))
  (refine wpH_t 1 _ (by exact gE rfl) (by kernel_rfl) (by intro _ _ _ h; exact h) (Or.inl ⟨by rfl, (by intro _ h; (try dsimp only at h); go_simp; first | done | with_reducible rfl)⟩) (by assumption) ?_; (try simp only [Act.put, zs0, zs1, zs2]))
  (refine wpH_t 2 _ (by exact gE rfl) (by kernel_rfl) (by intro _ _ _ h; exact h) (Or.inl ⟨by rfl, (by intro _ h; (try dsimp only at h); go_simp; first | done | with_reducible rfl)⟩) (by assumption) ?_; (try simp only [Act.put, zs0, zs1, zs2]))
  (refine wpH_t 3 _ (by exact gE rfl) (by kernel_rfl) (by intro _ _ _ h; exact h) (Or.inl ⟨by rfl, (by intro _ h; (try dsimp only at h); go_simp; first | done | with_reducible rfl)⟩) (by assumption) ?_; (try simp only [Act.put, zs0, zs1, zs2]))
  (refine wpH_t 4 _ (by exact gE rfl) (by kernel_rfl) (by intro _ _ _ h; exact h) (Or.inl ⟨by rfl, (by intro _ h; (try dsimp only at h); go_simp; first | done | with_reducible rfl)⟩) (by assumption) ?_; (try simp only [Act.put, zs0, zs1, zs2]))
  (refine wpH_t 5 _ (by exact gE rfl) (by kernel_rfl) (by intro _ _ _ h; exact h) (Or.inl ⟨by rfl, (by intro _ h; (try dsimp only at h); go_simp; first | done | with_reducible rfl)⟩) (by assumption) ?_; (try simp only [Act.put, zs0, zs1, zs2]))
  (refine wpH_t 6 _ (by exact gE rfl) (by kernel_rfl) (by intro _ _ _ h; exact h) (Or.inl ⟨by rfl, (by intro _ h; (try dsimp only at h); go_simp; first | done | with_reducible rfl)⟩) (by assumption) ?_; (try simp only [Act.put, zs0, zs1, zs2]))
  (refine wpH_t 7 _ (by exact gE rfl) (by kernel_rfl) (by intro _ _ _ h; exact h) (Or.inl ⟨by rfl, (by intro _ h; (try dsimp only at h); go_simp; first | done | with_reducible rfl)⟩) (by assumption) ?_; (try simp only [Act.put, zs0, zs1, zs2]))
  (refine wpH_t 8 _ (by exact gE rfl) (by kernel_rfl) (by intro _ _ _ h; exact h) (Or.inl ⟨by rfl, (by intro _ h; (try dsimp only at h); go_simp; first | done | with_reducible rfl)⟩) (by assumption) ?_; (try simp only [Act.put, zs0, zs1, zs2]))
  (refine wpH_t 9 _ (by exact gE rfl) (by kernel_rfl) (by intro _ _ _ h; exact h) (Or.inl ⟨by rfl, (by intro _ h; (try dsimp only at h); go_simp; first | done | with_reducible rfl)⟩) (by assumption) ?_; (try simp only [Act.put, zs0, zs1, zs2]))
  (refine wpH_t 10 _ (by exact gE rfl) (by kernel_rfl) (by intro _ _ _ h; exact h) (Or.inl ⟨by rfl, (by intro _ h; (try dsimp only at h); go_simp; first | done | with_reducible rfl)⟩) (by assumption) ?_; (try simp only [Act.put, zs0, zs1, zs2]))
  (refine wpH_t 11 _ (by exact gE rfl) (by kernel_rfl) (by intro _ _ _ h; exact h) (Or.inl ⟨by rfl, (by intro _ h; (try dsimp only at h); go_simp; first | done | with_reducible rfl)⟩) (by assumption) ?_; (try simp only [Act.put, zs0, zs1, zs2]))
  (refine wpH_t 12 _ (by exact gE rfl) (by kernel_rfl) (by intro _ _ _ h; exact h) (Or.inl ⟨by rfl, (by intro _ h; (try dsimp only at h); go_simp; first | done | with_reducible rfl)⟩) (by assumption) ?_; (try simp only [Act.put, zs0, zs1, zs2]))
  (refine wpH_t 13 _ (by exact gE rfl) (by kernel_rfl) (by intro _ _ _ h; exact h) (Or.inl ⟨by rfl, (by intro _ h; (try dsimp only at h); go_simp; first | done | with_reducible rfl)⟩) (by assumption) ?_; (try simp only [Act.put, zs0, zs1, zs2]))
  (refine wpH_t 14 _ (by exact gE rfl) (by kernel_rfl) (by intro _ _ _ h; exact h) (Or.inl ⟨by rfl, (by intro _ h; (try dsimp only at h); go_simp; first | done | with_reducible rfl)⟩) (by assumption) ?_; (try simp only [Act.put, zs0, zs1, zs2]))
  (refine wpH_t 16 _ (by exact gE rfl) (by kernel_rfl) (by intro _ _ _ h; exact h) (Or.inl ⟨by rfl, (by intro _ h; (try dsimp only at h); go_simp; first | done | with_reducible rfl)⟩) (by assumption) ?_; (try simp only [Act.put, zs0, zs1, zs2]))
  (refine wpH_one (i := 15) (by exact gE rfl) (by kernel_rfl) (by rfl) ?_; (go_simp; (with_reducible refine (hMk w4.drew J4.drew R4.drew).mono ?_); rintro e w5 ⟨rfl, b5⟩; refine ⟨⟨(P4.drew.below b5 P4.lt).cell rfl, (P4.drew.below b5 P4.lt).cell rfl, (Q4.drew.below b5 Q4.lt).cell rfl, (Q4.drew.below b5 Q4.lt).cell rfl, (J4.drew.below b5 J4.lt).cell rfl⟩, ?_⟩); (try simp only [Act.put, zs0, zs1, zs2]))
  refine wpH_done (by kernel_rfl) ?_ _
  have J5 := J4.drew.below b5 J4.lt
  have R5 := R4.drew.below b5 R4.lt
  have O5 := O4'.drew.below b5 (Nat.le_refl _)
  have B5 := B4.drew.trans (b5.mono B4.size)
  have z5 : w4.heap.size ≤ w5.heap.size := b5.size
  clear hHeld q0 q1 q2 q3 q4 P4 Q4 J4 R4 O4' B4 b5 hMk
  have O5' := (O5.wide (lo' := w.heap.size) (by omega))
  clear O5
  go_wp2_with fail
  go_loopw [9, 46] (fun bv i wr => ∃ k : Nat, k ≤ 4 ∧ i = .int .i64 k ∧ (∃ A c N, bv = .slice A N c ∧ N = 12 + 8 * k ∧ Ow wr w.heap.size A c (sbB g nonce y0 y1 y2 y3 k)) ∧ Blk wr bj 84 (jarL s k' g) ∧ Rnd wr ∧ Below w.heap.size w wr) (fun _ i _ => 4 - (intOf i).toNat)
  case atStart => exact ⟨0, by omega, rfl, ⟨A4, c4, 12, rfl, rfl, O5'⟩, J5, R5, B5⟩
  case round =>
    obtain ⟨k, hk, rfl, ⟨A, c, N, rfl, hN, hO⟩, hJ, hR, hB⟩ := hrel
    obtain ⟨wo, rfl⟩ : ∃ wo : World, wo = wr := ⟨wr, rfl⟩
    have zo := hB.size
    clear J5 R5 B5 O5'
    have : k = 0 ∨ k = 1 ∨ k = 2 ∨ k = 3 ∨ k = 4 := by omega
    rcases this with rfl | rfl | rfl | rfl | rfl
    · skip
      obtain rfl : N = 12 := hN
      have hE := app8 A 12 c _ _ (sbB g nonce y0 y1 y2 y3 0) y0 wo HL.out.1 hO.bs (Nat.le_refl _) (by omega) (by obtain ⟨h0, h1⟩ := hy0; omega)
      go_wp2_with fail
      with_reducible refine hE.mono ?_
      rintro e w6 ⟨A6, c6, rfl, O6, b6⟩
      clear hE
      go_wp2_with fail
      exact ⟨⟨1, by omega, rfl, ⟨A6, c6, _, rfl, rfl, O6.wide zo⟩, hJ.below b6 hJ.lt, hR.below b6 hR.lt, hB.trans (b6.mono zo)⟩, by simp [intOf] <;> decide⟩
    · skip
      obtain rfl : N = 20 := hN
      have hE := app8 A 20 c _ _ (sbB g nonce y0 y1 y2 y3 1) y1 wo HL.out.2.1 hO.bs (Nat.le_refl _) (by omega) (by obtain ⟨h0, h1⟩ := hy1; omega)
      go_wp2_with fail
      with_reducible refine hE.mono ?_
      rintro e w6 ⟨A6, c6, rfl, O6, b6⟩
      clear hE
      go_wp2_with fail
      exact ⟨⟨2, by omega, rfl, ⟨A6, c6, _, rfl, rfl, O6.wide zo⟩, hJ.below b6 hJ.lt, hR.below b6 hR.lt, hB.trans (b6.mono zo)⟩, by simp [intOf] <;> decide⟩
    · skip
      obtain rfl : N = 28 := hN
      have hE := app8 A 28 c _ _ (sbB g nonce y0 y1 y2 y3 2) y2 wo HL.out.2.2.1 hO.bs (Nat.le_refl _) (by omega) (by obtain ⟨h0, h1⟩ := hy2; omega)
      go_wp2_with fail
      with_reducible refine hE.mono ?_
      rintro e w6 ⟨A6, c6, rfl, O6, b6⟩
      clear hE
      go_wp2_with fail
      exact ⟨⟨3, by omega, rfl, ⟨A6, c6, _, rfl, rfl, O6.wide zo⟩, hJ.below b6 hJ.lt, hR.below b6 hR.lt, hB.trans (b6.mono zo)⟩, by simp [intOf] <;> decide⟩
    · skip
      obtain rfl : N = 36 := hN
      have hE := app8 A 36 c _ _ (sbB g nonce y0 y1 y2 y3 3) y3 wo HL.out.2.2.2.1 hO.bs (Nat.le_refl _) (by omega) (by obtain ⟨h0, h1⟩ := hy3; omega)
      go_wp2_with fail
      with_reducible refine hE.mono ?_
      rintro e w6 ⟨A6, c6, rfl, O6, b6⟩
      clear hE
      go_wp2_with fail
      exact ⟨⟨4, by omega, rfl, ⟨A6, c6, _, rfl, rfl, O6.wide zo⟩, hJ.below b6 hJ.lt, hR.below b6 hR.lt, hB.trans (b6.mono zo)⟩, by simp [intOf] <;> decide⟩
    · obtain rfl : N = 44 := hN
      have hcl := hO.cap_le
      have hcm := hO.cap_max
      rw [HL.out.2.2.2.2] at hcl
      have hE := hT' A c wo hJ hR (hO.bs.wide (Nat.zero_le _) (Nat.le_refl _)) hcl hcm
      go_wp2_with (first | (refine wpl_loadf (by rfl) 3 _ (by rfl) bj 2 (by rfl) _ _ hJ _ rfl _ Tryd.underlying3 rfl ?_))
      with_reducible refine hE.mono ?_
      rintro e w6 ⟨rfl, b6⟩
      have O6 := hO.below b6 (Nat.le_refl _)
      have B6 := hB.trans (b6.mono zo)
      have hE2 := app8 A 44 c _ _ _ tg w6 HL.out.2.2.2.2 O6.bs (Nat.le_refl _) (by omega) (by obtain ⟨h0, h1⟩ := ht; omega)
      clear hE hO hJ hR hB b6
      go_wp2_with fail
      with_reducible refine hE2.mono ?_
      rintro e w7 ⟨A7, c7, rfl, O7, b7⟩
      go_wp2_with fail
      go_ret
      exact ⟨A7, c7, rfl, O7.wide B6.size, B6.trans (b7.mono B6.size)⟩
end Go.Proofs.YtachhbbofemfdaaDoor
namespace Go.Proofs.YtachhbbofemfdaaDoor
open Go.RowKit
set_option linter.unusedSimpArgs false
set_option linter.unusedVariables false
set_option maxRecDepth 100000
def fdD (L : Flds) (kd : Int) : List Int := ((L.find? fun t => t.1 == kd).map (·.2)).getD []
def fdB (L : Flds) (kd : Int) : Bool := (L.find? fun t => t.1 == kd).isSome
theorem kd_get {L : Flds} {k : Nat} (h : k < L.length) : kdL L k = (L[k]).1 ∧ dtL L k = (L[k]).2 := by
  unfold kdL dtL
  rw [List.getD_eq_getElem?_getD, List.getElem?_eq_getElem h]
  exact ⟨rfl, rfl⟩
theorem fd_none {L : Flds} {kd : Int} (h : NoK L kd L.length) : fdD L kd = [] ∧ fdB L kd = false := by
  have e : (L.find? fun t => t.1 == kd) = none := by
    rw [List.find?_eq_none]
    intro t ht
    obtain ⟨i, hi, rfl⟩ := List.mem_iff_getElem.1 ht
    have := h i hi
    rw [(kd_get hi).1] at this
    simpa using this
  unfold fdD fdB
  rw [e]
  exact ⟨rfl, rfl⟩
theorem fd_some {L : Flds} {kd : Int} {k : Nat} (hk : k < L.length) (he : kdL L k = kd) (h : NoK L kd k) : fdD L kd = dtL L k ∧ fdB L kd = true := by
  have e : (L.find? fun t => t.1 == kd) = some L[k] := by
    rw [List.find?_eq_some_iff_getElem]
    refine ⟨by rw [← (kd_get hk).1, he]; simp, k, hk, rfl, fun j hj => ?_⟩
    have := h j hj
    rw [(kd_get (by omega)).1] at this
    simpa using this
  unfold fdD fdB
  rw [e, (kd_get hk).2]
  exact ⟨rfl, rfl⟩
theorem find_u (A : Option Addr) (c : Nat) (L : List (Int × List Int)) (n : Nat) (kd : Int) (w : World) (hn : L.length = n) (h : Xs w w.heap.size A L) (hnc : n ≤ c) (hc : c ≤ 9223372036854775807) (hsz : ∀ k, k < n → (dtL L k).length ≤ 140737488351232) :
    Calls Tryd.prog 31 #[.slice A n c, .int .i64 kd] w fun e w' => ∃ A' c' N, e = .returned (.tuple #[.slice A' N c', .bool (fdB L kd)]) ∧ (fdD L kd).length = N ∧ Ow w' w.heap.size A' c' (fdD L kd) ∧ Below w.heap.size w w' := by
  refine (find_any A c L n kd w hn h hnc hc hsz).mono fun e w' hh => ?_
  rcases hh with ⟨h1, h2, h3⟩ | ⟨k, A', c', h1, h2, h3, h4, h5, h6⟩
  · obtain ⟨e1, e2⟩ := fd_none (by rw [hn]; exact h2.out)
    rw [e1, e2]
    exact ⟨none, 0, 0, h1, rfl, Ow.nil _ _, h3⟩
  · obtain ⟨e1, e2⟩ := fd_some (by omega) h3 h4.out
    rw [e1, e2]
    exact ⟨A', c', _, h1, rfl, h5, h6⟩
set_option maxHeartbeats 4000000 in
theorem rfind_u (A : Option Addr) (c : Nat) (L : List (Int × List Int)) (n : Nat) (kd : Int) (w : World) (hn : L.length = n) (h : Xs w w.heap.size A L) (hnc : n ≤ c) (hc : c ≤ 9223372036854775807) (hsz : ∀ k, k < n → (dtL L k).length ≤ 140737488351232) :
    Calls Tryd.prog 36 #[.slice A n c, .int .i64 kd] w fun e w' => ∃ A' c' N, e = .returned (.tuple #[.slice A' N c', .bool (fdB L kd)]) ∧ (fdD L kd).length = N ∧ Ow w' w.heap.size A' c' (fdD L kd) ∧ Below w.heap.size w w' := by
  go_enter Tryd.func36, Tryd.ntmps36
  go_wp2
  go_loop [6] (fun i => ∃ k : Nat, k ≤ n ∧ i = .int .i64 k ∧ Hid (NoK L kd k)) (fun i => n - (intOf i).toNat)
  case atStart => exact ⟨0, by omega, rfl, fun j hj => by omega⟩
  case round =>
    obtain ⟨k, hk, rfl, hN⟩ := hrel
    by_cases hlt : k < n
    · obtain ⟨b, o, rfl, hbw, hx⟩ := h (by omega)
      obtain ⟨Ak, ck, hrg, hBk, hlc, hcm, hno⟩ := (hx k (by omega)).open'
      have hi0 : (0 : Int) ≤ k := by omega
      have hi1 : (k : Int) < n := by omega
      have hs1 := hsz k hlt
      have e0 : w.cell? ⟨b, o + k * 2, none⟩ = some (.int .i64 (kdL L k)) := by simpa using range_cell hrg 0 rfl
      have e1 : w.cell? ⟨b, o + k * 2 + 1, none⟩ = some (.slice Ak (dtL L k).length ck) := range_cell hrg 1 rfl
      by_cases he : kdL L k = kd
      · have he' : (kdL L k == kd) = true := by simpa using he
        obtain ⟨f1, f2⟩ := fd_some (by omega) he hN.out
        have F1 := Lib.hid f1
        have F2 := Lib.hid f2
        have HE := Lib.hid he
        obtain ⟨D, hD⟩ : ∃ D, (dtL L k).length = D := ⟨_, rfl⟩
        rw [hD] at e1 hs1 hlc
        have HD := Lib.hid hD
        clear hx hrg he f1 f2 hD
        obtain ⟨w1, hw1⟩ : ∃ w1, w.alloc (.cells #[] 5) = w1 := ⟨_, rfl⟩
        have c0 : w1.cell? ⟨b, o + k * 2 + 1, none⟩ = some (.slice Ak D ck) := by rw [← hw1]; exact (World.cell?_alloc_lt w _ _ (World.block_lt_of_cell? w _ e1)).trans e1
        have hO : Ow w1 w.heap.size (some ⟨w.heap.size, 0, none⟩) 0 [] := by rw [← hw1]; exact ow_empty' (Blk.new w _ _ _ rfl) (Nat.le_refl _)
        have hB1 : Bs w1 0 w.heap.size Ak (dtL L k) := by rw [← hw1]; exact hBk.alloc (Nat.le_refl _) _
        have b1 : Below w.heap.size w w1 := by rw [← hw1]; exact (Below.refl _ _).alloc (Nat.le_refl _) _
        have z1 := b1.size
        go_wp2_with (first
          | (with_reducible refine wpList_append_bs rfl (.tmp 20) (.tmp 25) rfl 0 0 D ck rfl rfl rfl HD.out hO hB1 (by omega) z1 ?_; intro A2 c2 w2 O2 b2 _))
        go_ret2
        rw [F1.out, F2.out]
        exact ⟨A2, c2, D, rfl, HD.out, by simpa using O2, b1.trans b2⟩
      · have he' : (kdL L k == kd) = false := by simpa using he
        have hN' : Hid (NoK L kd (k + 1)) := fun j hj => by
          rcases Nat.lt_or_ge j k with h1 | h1
          · exact hN.out j h1
          · obtain rfl : j = k := by omega
            exact he
        clear he hx hrg
        go_wp2
        exact ⟨⟨k + 1, by omega, by go_num, hN'⟩, by simp [intOf]; omega⟩
    · obtain rfl : k = n := by omega
      obtain ⟨e1, e2⟩ := fd_none (by rw [hn]; exact hN.out)
      have F1 := Lib.hid e1
      have F2 := Lib.hid e2
      clear e1 e2
      go_wp2
      go_ret2
      rw [F1.out, F2.out]
      exact ⟨none, 0, 0, rfl, rfl, Ow.nil _ _, Below.refl _ _⟩
set_option maxHeartbeats 1000000 in
theorem rauth_any (id tag : Int) (w : World) (h0 : 0 ≤ id) (h1 : id ≤ 4294967295) (h2 : 0 ≤ tag) (h3 : tag ≤ 18446744073709551615) :
    Calls Tryd.prog 77 #[.int .u32 id, .int .u64 tag] w fun e w' => ∃ A' c', e = .returned (.slice A' 12 c') ∧ Ow w' w.heap.size A' c' (bytesB 4 id ++ bytesB 8 tag) ∧ Below w.heap.size w w' := by
  have hE := rapp4 none 0 0 0 0 [] id w rfl Bs.nil (Nat.zero_le _) (by omega) ⟨h0, by omega⟩
  have hwr : IntKind.u64.wrap id = id := by rw [IntKind.wrap_u64]; omega
  go_enter Tryd.func77, Tryd.ntmps77
  go_wp2_with fail
  refine hE.mono ?_
  rintro e w1 ⟨A1, c1, rfl, O1, b1⟩
  have O1' : Ow w1 w.heap.size A1 c1 (bytesB 4 id) := by simpa using O1
  clear hE O1
  have hE := rapp8 A1 4 c1 _ _ (bytesB 4 id) tag w1 (bytesB_length _ _) O1'.bs (Nat.le_refl _) (by omega) ⟨h2, by omega⟩
  go_wp2_with fail
  refine hE.mono ?_
  rintro e w2 ⟨A2, c2, rfl, O2, b2⟩
  go_wp2
  go_ret
  exact ⟨_, _, rfl, O2.wide b1.size, b1.trans (b2.mono b1.size)⟩
set_option maxHeartbeats 1000000 in
theorem rsplit_12 (A : Option Addr) (c lo hi : Nat) (l : List Int) (w : World) (hn : l.length = 12) (h : Bs w lo hi A l) (hm : 12 ≤ c) (hc : c ≤ 9223372036854775807) :
    Calls Tryd.prog 68 #[.slice A 12 c] w fun e w' => e = .returned (.tuple #[.int .u32 (numB (l.take 4)), .int .u64 (numB ((l.drop 4).take 8)), .int .i64 0]) ∧ w = w' := by
  have hE := rget_any A 12 c lo hi l 0 4 w hn h hm hc (by omega)
  have hE2 := rget_any A 12 c lo hi l 4 8 w hn h hm hc (by omega)
  unfold getR at hE hE2
  rw [getE_0 (by omega) (by omega)] at hE hE2
  have e1 : z0 0 (getV l 0 4) = numB (l.take 4) := by unfold getV z0; simp
  have e2 : z0 0 (getV l 4 8) = numB ((l.drop 4).take 8) := by unfold getV z0; simp
  rw [e1] at hE
  rw [e2] at hE2
  have hr := (numB_range (l.take 4)).1
  have hl := numB_le_pow' (h.byt.take 4)
  rw [List.length_take, hn] at hl
  have hl2 : numB (l.take 4) ≤ 4294967295 := by have : (256 : Int) ^ (min 4 12) = 4294967296 := by decide
                                                omega
  clear hl e1 e2
  generalize numB (l.take 4) = X at hE hr hl2
  generalize numB ((l.drop 4).take 8) = Y at hE2
  go_enter Tryd.func68, Tryd.ntmps68
  go_wp2_with (first
    | (go_at_call 67; ((with_reducible refine hE.mono ?_); rintro e _ ⟨rfl, rfl⟩))
    | (go_at_call 67; ((with_reducible refine hE2.mono ?_); rintro e _ ⟨rfl, rfl⟩)))
  go_ret3
  exact ⟨rfl, rfl⟩
set_option maxHeartbeats 1000000 in
theorem macchk_any (k0 k1 tag : Int) (A : Option Addr) (n c : Nat) (l : List Int) (w : World) (hk0 : U64 k0) (hk1 : U64 k1) (hn : l.length = n) (h : Bs w 0 w.heap.size A l) (hm : n ≤ 1000000) (hnc : n ≤ c) (hcc : c ≤ 9223372036854775807) (hR : Rnd w) :
    Calls Tryd.prog 64 #[keyV k0 k1, .slice A n c, .int .u64 tag] w fun e w' => e = .returned (.bool (tagF k0 k1 l == tag)) ∧ Below w.heap.size w w' := by
  have hE := fun W hB hR => tag_any k0 k1 A n c l W hk0 hk1 hn hB hm hnc hcc hR
  generalize tagF k0 k1 l = T at hE ⊢
  go_enter Tryd.func64, Tryd.ntmps64
  go_wp2_with (first
    | (refine wpl_box (by rfl) 29 _ (by rfl) _ (keyL k0 k1) (by rfl) rfl ?_; intro w1 P1 s1 b1)
    | (refine wpl_load (by rfl) 29 _ (by rfl) w.heap.size (by rfl) 29 _ P1 _ Tryd.underlying29 rfl _ sizeKey (by rfl) ?_)
    | (go_at_call 74; ((with_reducible refine (hE _ ((h.below b1 (Nat.le_refl _)).wide (Nat.le_refl _) b1.size) (hR.below b1 hR.lt)).mono ?_); rintro e w2 ⟨rfl, b2⟩)))
  go_ret
  exact ⟨rfl, b1.trans (b2.mono b1.size)⟩
set_option maxHeartbeats 1000000 in
theorem gclone_any (A : Option Addr) (n c : Nat) (l : List Int) (w : World) (hn : l.length = n) (h : Bs w 0 w.heap.size A l) (hm : n ≤ 1000000) :
    Calls Tryd.prog 34 #[.slice A n c] w fun e w' => e = .returned (.slice (some ⟨w.heap.size, 0, none⟩) n n) ∧ Ow w' w.heap.size (some ⟨w.heap.size, 0, none⟩) n l ∧ Below w.heap.size w w' ∧ w.heap.size < w'.heap.size := by
  have hmk := fun W => makeU8 .i64 .i64 n (by omega) W
  obtain ⟨w1, hw1⟩ : ∃ w1, w.alloc (.cells (madeCells #[.int .u8 0] n) 5) = w1 := ⟨_, rfl⟩
  have hO1 : Ow w1 w.heap.size (some ⟨w.heap.size, 0, none⟩) n (List.replicate n 0) := by rw [← hw1]; exact Ow.made w n (by omega)
  have hB1 : Bs w1 0 w.heap.size A l := by rw [← hw1]; exact h.alloc (Nat.le_refl _) _
  have b1 : Below w.heap.size w w1 := by rw [← hw1]; exact (Below.refl _ _).alloc (Nat.le_refl _) _
  have z1 : w.heap.size < w1.heap.size := by rw [← hw1]; simp
  go_enter Tryd.func34, Tryd.ntmps34
  go_wp2_with (first
    | (with_reducible refine wpList_copy_bs rfl (.tmp 7) (.tmp 8) rfl w.heap.size n n n c _ rfl rfl (by simp) hn (Nat.le_refl _) hO1 hB1 ?_; intro w2 O2 g2 s2))
  go_ret
  have O2' : Ow w2 w.heap.size (some ⟨w.heap.size, 0, none⟩) n l := by simpa using O2
  exact ⟨rfl, O2', b1.trans (But.below (g := w.heap.size) g2 b1.size (Nat.le_refl _)), by omega⟩
end Go.Proofs.YtachhbbofemfdaaDoor
namespace Go.Proofs.YtachhbbofemfdaaDoor
open Go.RowKit
set_option linter.unusedSimpArgs false
set_option linter.unusedVariables false
set_option maxRecDepth 100000
section
variable {w : World} {ops : Array Oper} {rest : List Oper} {o : Oper} {a : Act} {Q : Exit → Act → World → Prop}
/-- copy of bytes over the whole of a block that is known -/
theorem wpl_copy_blk (hw : Region.wanted o (yielded ops a.tmps) = true) (d s : Operand) (ho : o.op = .call { callee := .builtin .copy, args := #[d, s], argTypes := #[23, 23] })
    (b n c c' lo hi : Nat) (A : Option Addr) (l : List Int) (t : TypeId) (cs : List Value) (hd : a.eval d = .slice (some ⟨b, 0, none⟩) n c) (hs : a.eval s = .slice A n c') (hB : Blk w b t cs) (hc : cs.length = n) (hl : l.length = n) (h0 : 0 < n) (hsrc : Bs w lo hi A l)
    (h : ∀ w', Blk w' b t (l.map (Value.int .u8)) → w.heap.size ≤ w'.heap.size → But b w w' → wpList Tryd.prog ops Q rest (a.put o.dst (goInt n)) w') : wpList Tryd.prog ops Q (o :: rest) a w := by
  refine wpl_want hw fun K hK => ?_
  obtain ⟨ab, ao, rfl, _, _, hcell⟩ := hsrc.at (by omega)
  have hth : w.there b 0 cs.length := hB.there
  have hr := run_copy_cells (P := Tryd.prog) w 23 23 o.type 5 b 0 n c ⟨ab, ao, none⟩ n c' (l.map (Value.int .u8)) Tryd.underlying23 sizeU8 (by rw [List.length_map]; simp [hl]) (cells_u8 hcell (Nat.le_refl _)) (fun j hj => by
    rw [List.length_map] at hj
    exact (hth j (by omega)).1) (fun j hj => hB.frozen _) (oneCellU8 l)
  unfold Oper.wp execOp
  simp only [ho, resolve, invoke, builtin, Sem.run_bind, Sem.run_pure, Result.andThen_ok, List.map_toArray, List.map_cons, List.map_nil, hd, hs, hr]
  rw [List.length_map, hl]
  exact hK _ _ (h _ (hB.stored _ (by rw [List.length_map]; omega)) (Nat.le_of_eq (size_setCells _ _ _ _).symm) (but_setCells _ _ _ (World.grownBy.refl w _)))
end
def idB (n x : Int) : List Int := bytesB 8 n ++ bytesB 8 x
theorem idB_len (n x : Int) : (idB n x).length = 16 := by unfold idB; rw [List.length_append, bytesB_length, bytesB_length]
theorem idB_byt (n x : Int) : Byt (idB n x) := (bytesB_byt _ _).app (bytesB_byt _ _)
abbrev byC (l : List Int) : List Value := l.map (Value.int .u8)
theorem sizeId : (Tryd.prog.info? 101).map (·.size) = some 16 := by kernel_rfl
theorem zeroId : (Tryd.prog.info? 101).map (·.zero) = some (some (.agg (byC (List.replicate 16 0)).toArray)) := by kernel_rfl
set_option maxHeartbeats 4000000 in
theorem ident_any (n x : Int) (w : World) (hn : U64 n) (hx : U64 x) :
    Calls Tryd.prog 48 #[.int .u64 n, .int .u64 x] w fun e w' => e = .returned (.agg (byC (idB n x)).toArray) ∧ Below w.heap.size w w' := by
  have hE := fun W => app8 none 0 0 0 0 [] n W rfl Bs.nil (Nat.zero_le _) (by omega) ⟨hn.1, by have := hn.2; omega⟩
  have hE2 := fun W A c hB => app8 A 8 c 0 W.heap.size (bytesB 8 n) x W (bytesB_length _ _) hB (Nat.le_refl _) (by omega) ⟨hx.1, by have := hx.2; omega⟩
  have hz : (byC (List.replicate 16 0)).length = 16 := rfl
  have hz2 : (byC (idB n x)).length = 16 := by rw [List.length_map]; exact idB_len n x
  obtain ⟨Z, hZ⟩ : ∃ Z, byC (List.replicate 16 0) = Z := ⟨_, rfl⟩
  have hzero := zeroId
  rw [hZ] at hzero hz
  go_enter Tryd.func48, Tryd.ntmps48
  go_wp2_with (first
    | ((refine wpl_alloc (by rfl) 101 (by rfl) (.agg (Z).toArray) (Z) hzero rfl ?_; intro w2 I2 s2 b2); (have R2 := R1.below b2 (by omega)))
    | ((refine wpl_alloc (by rfl) 101 (by rfl) (.agg (Z).toArray) (Z) hzero rfl ?_; intro w1 R1 s1 b1))
    | (go_at_call 45; ((with_reducible refine (hE _).mono ?_); rintro e w3 ⟨A3, c3, rfl, O3, b3⟩; (have I3 := I2.below b3 (by omega)); (have R3 := R2.below b3 (by omega)); (have z3 := b3.size)))
    | (go_at_call 45; ((with_reducible refine (hE2 _ _ _ (O3.bs.wide (Nat.zero_le _) (Nat.le_refl _))).mono ?_); rintro e w4 ⟨A4, c4, rfl, O4, b4⟩; (have I4 := I3.below b4 (by omega)); (have R4 := R3.below b4 (by omega)); (have z4 := b4.size)))
    | (refine wpl_copy_blk (by rfl) _ _ (by rfl) w1.heap.size 16 16 c4 _ _ A4 (idB n x) _ _ (by rfl) (by rfl) I4 hz (idB_len n x) (by omega) O4.bs ?_; intro w5 I5 s5 g5; (have R5 := R4.but g5 (by omega)))
    | (refine wpl_load (by rfl) 101 _ (by rfl) w1.heap.size (by rfl) 101 _ I5 _ Tryd.underlying101 rfl _ sizeId (by rfl) ?_)
    | (refine wpl_store (by rfl) 101 _ _ (by rfl) w.heap.size (by rfl) _ (by rfl) (byC (idB n x)) rfl 101 _ R5 (hz.trans hz2.symm) _ sizeId hz2 (oneCellU8 _) ?_; intro w6 R6 s6 g6))
  refine bodyPost_ret (res_c Tryd.results48 (by rfl) R6 Tryd.underlying101 rfl sizeId hz2) rfl ?_
  exact ⟨rfl, (((((b1.trans (b2.mono (by omega))).trans (b3.mono (by omega))).trans (b4.mono (by omega))).trans (g5.below (by omega) (by omega))).trans (g6.below (by omega) (by omega)))⟩
/-! ### seal -/
def athB (k0 k1 : Int) (b : List Int) : List Int := bytesB 4 0 ++ bytesB 8 (tagF k0 k1 b)
theorem athB_len (k0 k1 : Int) (b : List Int) : (athB k0 k1 b).length = 12 := by unfold athB; rw [List.length_append, bytesB_length, bytesB_length]
def bdyB (l v m st po pr rd rp id ref org rec xmt : Int) (L : Flds) : List Int := encH l v m st po pr rd rp id ref org rec xmt ++ fldsB L
def msgB (l v m st po pr rd rp id ref org rec xmt : Int) (L : Flds) (k0 k1 : Int) : List Int := bdyB l v m st po pr rd rp id ref org rec xmt L ++ athB k0 k1 (bdyB l v m st po pr rd rp id ref org rec xmt L)
theorem flds_small {L : Flds} (he : apxE L = 0) : (fldsB L).length ≤ 4160 := by
  obtain ⟨h16, hall⟩ := apx_parts he
  have h := sum_le hall h16 L.length
  rwa [List.take_length] at h
theorem bdyB_len (l v m st po pr rd rp id ref org rec xmt : Int) (L : Flds) : (bdyB l v m st po pr rd rp id ref org rec xmt L).length = 48 + (fldsB L).length := by unfold bdyB; rw [List.length_append, encH_len]
theorem msgB_len (l v m st po pr rd rp id ref org rec xmt : Int) (L : Flds) (k0 k1 : Int) : (msgB l v m st po pr rd rp id ref org rec xmt L k0 k1).length = 60 + (fldsB L).length := by
  unfold msgB
  rw [List.length_append, bdyB_len, athB_len]
  omega
set_option maxRecDepth 100000 in
set_option maxHeartbeats 8000000 in
theorem seal_ok (l v m st po pr rd rp id ref org rec xmt : Int) (B : Option Addr) (q d : Nat) (L : Flds) (k0 k1 : Int) (w : World) (hk : nchk l v m st po pr = 0) (h6 : 0 ≤ rd ∧ rd ≤ 4294967295) (h7 : 0 ≤ rp ∧ rp ≤ 4294967295) (h8 : 0 ≤ id ∧ id ≤ 4294967295) (h9 : 0 ≤ ref ∧ ref ≤ 18446744073709551615) (h10 : 0 ≤ org ∧ org ≤ 18446744073709551615) (h11 : 0 ≤ rec ∧ rec ≤ 18446744073709551615) (h12 : 0 ≤ xmt ∧ xmt ≤ 18446744073709551615) (hm : L.length = q) (hX : Xs w w.heap.size B L) (hmd : q ≤ d) (hd : d ≤ 9223372036854775807) (he : apxE L = 0) (hk0 : U64 k0) (hk1 : U64 k1) (hR : Rnd w) :
    Calls Tryd.prog 41 #[ntp l v m st po pr rd rp id ref org rec xmt, .slice B q d, keyV k0 k1] w fun e w' => ∃ A c N, e = .returned (.tuple #[.slice A N c, .int .i64 0]) ∧ (msgB l v m st po pr rd rp id ref org rec xmt L k0 k1).length = N ∧ Ow w' w.heap.size A c (msgB l v m st po pr rd rp id ref org rec xmt L k0 k1) ∧ Below w.heap.size w w' := by
  have hfl := flds_small he
  have hE := fun W => encode_ok l v m st po pr rd rp id ref org rec xmt W hk h6 h7 h8 h9 h10 h11 h12
  obtain ⟨hd1, hhd⟩ : ∃ H, encH l v m st po pr rd rp id ref org rec xmt = H := ⟨_, rfl⟩
  have hdl : hd1.length = 48 := by rw [← hhd, encH_len]
  unfold msgB bdyB
  rw [hhd] at hE ⊢
  obtain ⟨N, hN⟩ : ∃ N, (hd1 ++ fldsB L).length = N := ⟨_, rfl⟩
  have hN2 : N ≤ 4208 := by rw [← hN, List.length_append]; omega
  obtain ⟨D, hD⟩ : ∃ D, D = hd1 ++ fldsB L := ⟨_, rfl⟩
  rw [← hD] at hN ⊢
  have hT := fun W A c hB hc hcc hR => tag_any k0 k1 A N c D W hk0 hk1 hN hB (by omega) hc hcc hR
  have ht := tagF_u64 k0 k1 D
  unfold athB
  generalize tagF k0 k1 D = T at hT ht ⊢
  have hA := fun W => auth_any 0 T W (by omega) (by omega) ht.1 ht.2
  have hal := auth_len 0 T
  generalize bytesB 4 0 ++ bytesB 8 T = AB at hA hal ⊢
  have HN := Lib.hid hN
  have HA := Lib.hid hal
  have HD := Lib.hid hD
  have HL := Lib.hid hdl
  clear hhd hN hal hD hdl
  go_enter Tryd.func41, Tryd.ntmps41
  go_wp2_with (first
    | (refine wpl_box (by rfl) 27 _ (by rfl) _ ([.int .i64 l, .int .i64 v, .int .i64 m, .int .i64 st, .int .i64 po, .int .i64 pr, .int .u32 rd, .int .u32 rp, .int .u32 id, .int .u64 ref, .int .u64 org, .int .u64 rec, .int .u64 xmt]) (by rfl) rfl ?_; intro w1 P1 s1 b1)
    | ((refine wpl_box (by rfl) 29 _ (by rfl) _ (keyL k0 k1) (by rfl) rfl ?_; intro w2 K2 s2 b2); (have P2 := P1.below b2 (by omega)))
    | (refine wpl_load (by rfl) 27 _ (by rfl) w.heap.size (by rfl) 27 _ P2 _ Tryd.underlying27 rfl _ sizeNtp (by rfl) ?_)
    | (go_at_call 71; ((with_reducible refine (hE _).mono ?_); rintro e w3 ⟨A3, c3, rfl, O3, hc3, hc3', b3⟩; (have K3 := K2.below b3 (by omega)); (have z3 := b3.size))))
  have hX3 := (((hX.below b1 (Nat.le_refl _)).below b2 (by omega)).below b3 (by omega)).wide (hi' := w3.heap.size) (by omega)
  have hF := xappend_ok A3 48 c3 _ _ hd1 B q d L w3 HL.out O3 (Nat.le_refl _) (fun hn => by
    obtain ⟨_, _, e, _⟩ := O3.at (by rw [HL.out]; omega)
    rw [hn] at e; cases e) (by omega) hm hX3 hmd hd he
  rw [← HD.out] at hF
  with_reducible refine hF.mono ?_
  rintro e w4 ⟨A4, c4, N4, rfl, hN4, O4, b4⟩
  obtain rfl : N = N4 := HN.out.symm.trans hN4
  have B4 : Below w.heap.size w w4 := ((b1.trans (b2.mono (by omega))).trans (b3.mono (by omega))).trans (b4.mono (by omega))
  have K4 := K3.below b4 (by omega)
  have z4 := b4.size
  have hc4 := O4.cap_le
  have hcm4 := O4.cap_max
  rw [HN.out] at hc4
  have R4 := hR.below B4 hR.lt
  clear hF hN4 hX3 hX hE P1 P2 K2 K3 O3 b1 b2 b3 b4
  go_wp2_with (first
    | (refine wpl_load (by rfl) 29 _ (by rfl) w1.heap.size (by rfl) 29 _ K4 _ Tryd.underlying29 rfl _ sizeKey (by rfl) ?_)
    | (go_at_call 74; ((with_reducible refine (hT _ _ _ (O4.bs.wide (Nat.zero_le _) (Nat.le_refl _)) hc4 hcm4 R4).mono ?_); rintro e w5 ⟨rfl, b5⟩; (have O5 := O4.below b5 (Nat.le_refl _)); (have B5 := B4.trans (b5.mono B4.size)); (have z5 := b5.size)))
    | (go_at_call 73; ((with_reducible refine (hA _).mono ?_); rintro e w6 ⟨A6, c6, rfl, O6, b6⟩; (have O5' := O5.below b6 (Nat.le_refl _)); (have B6 := B5.trans (b6.mono B5.size)); (have z6 := b6.size)))
    | (refine wpl_append_bs (by rfl) (.tmp 27) (.tmp 31) (by rfl) N c4 12 c6 (by rfl) (by rfl) HN.out HA.out O5' O6.bs (by omega) (by omega) ?_; intro A7 c7 w7 O7 b7))
  go_ret2
  exact ⟨A7, c7, _, rfl, by rw [List.length_append, HN.out, HA.out], O7.wide (by omega), B6.trans (b7.mono (by omega))⟩
end Go.Proofs.YtachhbbofemfdaaDoor
namespace Go.Proofs.YtachhbbofemfdaaDoor
open Go.RowKit
set_option linter.unusedSimpArgs false
set_option linter.unusedVariables false
set_option maxRecDepth 100000
def dcE (b : List Int) : Int := if b.length < 48 then 5 else if 1 ≤ fB b 0 1 / 8 % 8 ∧ fB b 0 1 / 8 % 8 ≤ 4 then 0 else 8
def dcR (b : List Int) : List Int := if dcE b = 0 then b.drop 48 else []
def dcV (b : List Int) : Value := ntp (z0 (dcE b) (fB b 0 1 / 64)) (z0 (dcE b) (fB b 0 1 / 8 % 8)) (z0 (dcE b) (fB b 0 1 % 8)) (z0 (dcE b) (fB b 1 1)) (z0 (dcE b) (iB b 2 1)) (z0 (dcE b) (iB b 3 1)) (z0 (dcE b) (fB b 4 4)) (z0 (dcE b) (fB b 8 4)) (z0 (dcE b) (fB b 12 4)) (z0 (dcE b) (fB b 16 8)) (z0 (dcE b) (fB b 24 8)) (z0 (dcE b) (fB b 32 8)) (z0 (dcE b) (fB b 40 8))
theorem dcV_form (b : List Int) : ∃ l v m st po pr rd rp id ref org rec xmt : Int, dcV b = ntp l v m st po pr rd rp id ref org rec xmt ∧ (dcE b = 0 → nchk l v m st po pr = 0 ∨ True) ∧ (dcE b ≠ 0 → dcV b = ntp0) :=
  ⟨_, _, _, _, _, _, _, _, _, _, _, _, _, rfl, fun _ => .inr trivial, fun h => by unfold dcV; simp only [z0_no h]⟩
theorem dcR_len {b : List Int} {n : Nat} (hn : b.length = n) : (dcR b).length ≤ n := by
  unfold dcR
  split
  · rw [List.length_drop]; omega
  · simp
theorem decode_u (A : Option Addr) (n c : Nat) (b : List Int) (w : World) (hn : b.length = n) (h : Bs w 0 w.heap.size A b)  (hm : n ≤ 1000000) :
    Calls Tryd.prog 58 #[.slice A n c] w fun e w' => ∃ A' c' N, e = .returned (.tuple #[dcV b, .slice A' N c', .int .i64 (dcE b)]) ∧ (dcR b).length = N ∧ Ow w' w.heap.size A' c' (dcR b) ∧ Below w.heap.size w w' := by
  by_cases h48 : n < 48
  · have e : dcE b = 5 := by unfold dcE; rw [if_pos (by omega)]
    refine (decode_short A n c w h48).mono fun r w' ⟨h1, h2⟩ => ⟨none, 0, 0, ?_, ?_, ?_, h2⟩
    · rw [h1]; unfold dcV; rw [e]; simp only [z0_no (show (5 : Int) ≠ 0 by decide)]
    · unfold dcR; rw [e]; rfl
    · unfold dcR; rw [e]; exact Ow.nil _ _
  · by_cases hv : 1 ≤ fB b 0 1 / 8 % 8 ∧ fB b 0 1 / 8 % 8 ≤ 4
    · have e : dcE b = 0 := by unfold dcE; rw [if_neg (by omega), if_pos hv]
      refine (decode_ok A n c b w hn h (by omega) (by omega) (fB b 0 1) rfl hv).mono fun r w' ⟨A', c', h1, h2, h3⟩ => ⟨A', c', n - 48, ?_, ?_, ?_, h3⟩
      · rw [h1]; unfold dcV; rw [e]; simp only [z0_zero]
      · unfold dcR; rw [if_pos e, List.length_drop, hn]
      · unfold dcR; rw [if_pos e]; exact h2
    · have e : dcE b = 8 := by unfold dcE; rw [if_neg (by omega), if_neg hv]
      refine (decode_kind A n c b w hn h (by omega) (by omega) (fB b 0 1) rfl hv).mono fun r w' ⟨h1, h2⟩ => ⟨none, 0, 0, ?_, ?_, ?_, h2⟩
      · rw [h1]; unfold dcV; rw [e]; simp only [z0_no (show (8 : Int) ≠ 0 by decide)]
      · unfold dcR; rw [e]; rfl
      · unfold dcR; rw [e]; exact Ow.nil _ _
def spL (b : List Int) : Flds := prsL (dcR b)
def spA (b : List Int) : List Int := prsA (dcR b)
def spI (b : List Int) : List Int := fdD (spL b) 260
def spE (b : List Int) : Int := if dcE b ≠ 0 then dcE b else if prsE (dcR b) ≠ 0 then prsE (dcR b) else if (spA b).length = 12 ∧ (spI b).length = 16 then 0 else 7
theorem spE_cases (b : List Int) : (dcE b ≠ 0 ∧ spE b = dcE b) ∨ (dcE b = 0 ∧ prsE (dcR b) ≠ 0 ∧ spE b = prsE (dcR b)) ∨ (dcE b = 0 ∧ prsE (dcR b) = 0 ∧ ¬((spA b).length = 12 ∧ (spI b).length = 16) ∧ spE b = 7) ∨ (dcE b = 0 ∧ prsE (dcR b) = 0 ∧ (spA b).length = 12 ∧ (spI b).length = 16 ∧ spE b = 0) := by
  unfold spE
  by_cases h1 : dcE b = 0
  · by_cases h2 : prsE (dcR b) = 0
    · by_cases h3 : (spA b).length = 12 ∧ (spI b).length = 16
      · exact .inr (.inr (.inr ⟨h1, h2, h3.1, h3.2, by rw [if_neg (by omega), if_neg (by omega), if_pos h3]⟩))
      · exact .inr (.inr (.inl ⟨h1, h2, h3, by rw [if_neg (by omega), if_neg (by omega), if_neg h3]⟩))
    · exact .inr (.inl ⟨h1, h2, by rw [if_neg (by omega), if_pos h2]⟩)
  · exact .inl ⟨h1, by rw [if_pos h1]⟩
theorem parse_u {F : Nat} {A : Option Addr} {n c : Nat} {b : List Int} {w : World} (h : Calls Tryd.prog F #[.slice A n c] w (ParPost (prs b.length [] b) w)) :
    Calls Tryd.prog F #[.slice A n c] w fun e w' => ∃ A1 c1 n1 A2 c2 n2, e = .returned (.tuple #[.slice A1 n1 c1, .slice A2 n2 c2, .int .i64 (prsE b)]) ∧ (prsL b).length = n1 ∧ (prsA b).length = n2 ∧ XO w' w.heap.size A1 c1 (prsL b) ∧ Ow w' w.heap.size A2 c2 (prsA b) ∧ Below w.heap.size w w' :=
  h.mono fun r w' ⟨A1, c1, A2, c2, N, N2, wm, e1, e2, e3, e4, e5, e6, e7⟩ => ⟨A1, c1, N, A2, c2, N2, e1, e2, e3, e4.below e6 (Nat.le_refl _), e7.wide e5.size, e5.trans (e6.mono e5.size)⟩
theorem dt_small {b : List Int} (hb : Byt b) {k : Nat} : (dtL (prsL b) k).length ≤ 256 := by
  by_cases hE : prsE b = 0
  · obtain ⟨h1, _⟩ := prs_back hb
    obtain ⟨_, hv, _, _⟩ := h1 hE
    by_cases hk : k < (prsL b).length
    · obtain ⟨e1, e2⟩ := kd_get hk
      have := (hv _ (List.getElem_mem hk)).1
      rw [e2]
      unfold chkE at this
      split at this
      · split at this
        · omega
        · cases this
      · cases this
    · unfold dtL; rw [List.getD_eq_getElem?_getD, List.getElem?_eq_none (by omega)]; simp
  · obtain ⟨_, h2⟩ := prs_back hb
    obtain ⟨h3, _⟩ := h2 hE
    unfold dtL; rw [h3]; simp
theorem spA_n {b : List Int} {n : Nat} (hb : Byt b) (hn : b.length = n) (h1 : dcE b = 0) (h2 : prsE (dcR b) = 0) (h3 : (spA b).length = 12) : 60 ≤ n ∧ (dcR b).length = n - 48 := by
  have hR : dcR b = b.drop 48 := by unfold dcR; rw [if_pos h1]
  have h48 : 48 ≤ n := by
    unfold dcE at h1
    rw [hn] at h1
    by_cases h : n < 48
    · rw [if_pos h] at h1; cases h1
    · omega
  have hRl : (dcR b).length = n - 48 := by rw [hR, List.length_drop, hn]
  have hbR : Byt (dcR b) := by rw [hR]; exact hb.drop _
  obtain ⟨h4, _⟩ := prs_back hbR
  obtain ⟨h5, _⟩ := h4 h2
  have h6 := congrArg List.length h5
  rw [List.length_append] at h6
  unfold spA at h3
  omega
abbrev ptL (l v m st po pr rd rp id ref org rec xmt : Int) (A1 : Option Addr) (n1 c1 : Nat) (A2 : Option Addr) (n2 c2 : Nat) (A3 : Option Addr) (n3 c3 : Nat) (A4 : Option Addr) (n4 c4 : Nat) : List Value :=
  [.int .i64 l, .int .i64 v, .int .i64 m, .int .i64 st, .int .i64 po, .int .i64 pr, .int .u32 rd, .int .u32 rp, .int .u32 id, .int .u64 ref, .int .u64 org, .int .u64 rec, .int .u64 xmt, .slice A1 n1 c1, .slice A2 n2 c2, .slice A3 n3 c3, .slice A4 n4 c4]
theorem sizePt : (Tryd.prog.info? 75).map (·.size) = some 17 := by kernel_rfl
abbrev ptZ : List Value := ptL 0 0 0 0 0 0 0 0 0 0 0 0 0 none 0 0 none 0 0 none 0 0 none 0 0
theorem zeroPt : (Tryd.prog.info? 75).map (·.zero) = some (some (.agg ptZ.toArray)) := by kernel_rfl
set_option maxRecDepth 100000 in
set_option maxHeartbeats 8000000 in
theorem split_err (A : Option Addr) (n c : Nat) (b : List Int) (w : World) (hn : b.length = n) (h : Bs w 0 w.heap.size A b) (hnc : n ≤ c) (hc : c ≤ 9223372036854775807) (hm : n ≤ 1000000) (hE : spE b ≠ 0) :
    Calls Tryd.prog 30 #[.slice A n c] w fun e w' => e = .returned (.tuple #[.agg ptZ.toArray, .int .i64 (spE b)]) ∧ Below w.heap.size w w' := by
  have hD := fun W hB => decode_u A n c b W hn hB hm
  have hRn := dcR_len hn
  have hRb : Byt (dcR b) := by unfold dcR; split; exact h.byt.drop _; exact Byt.nil
  obtain ⟨l, v, m, st, po, pr, rd, rp, id, ref, org, rec, xmt, hV, _, _⟩ := dcV_form b
  rw [hV] at hD
  have hP := fun W A c N hN hB hc hcc => parse_u (parse_any A N c (dcR b) W hN hB hc hcc (by omega))
  have hsz := fun k => dt_small hRb (k := k)
  have hF := fun W A c N hN hX hc hcc => find_u A c (prsL (dcR b)) N 260 W hN hX hc hcc (fun k _ => Nat.le_trans (hsz k) (by omega))
  rcases spE_cases b with ⟨h1, h2⟩ | ⟨h1, h2, h3⟩ | ⟨h1, h2, h3, h4⟩ | ⟨h1, h2, h3, h4, h5⟩
  · rw [h2]
    have d1 : (dcE b != 0) = true := by simpa using h1
    obtain ⟨R, hR⟩ : ∃ R, R = dcR b := ⟨_, rfl⟩
    obtain ⟨LL, hLL⟩ : ∃ LL, LL = prsL R := ⟨_, rfl⟩
    obtain ⟨AA, hAA⟩ : ∃ AA, AA = prsA R := ⟨_, rfl⟩
    rw [← hR] at hRn
    rw [← hR, ← hLL] at hF
    rw [← hR] at hP
    rw [← hR] at hD
    simp only [← hLL, ← hAA] at hP
    obtain ⟨E, hE'⟩ : ∃ E, E = dcE b := ⟨_, rfl⟩
    rw [← hE'] at hD d1 ⊢
    clear hV h1 h2 hE hE' hR hLL hAA hP hF
    go_enter Tryd.func30, Tryd.ntmps30
    go_wp2_with (first
      | ((refine wpl_alloc (by rfl) 75 (by rfl) (.agg (ptZ).toArray) (ptZ) zeroPt rfl ?_; intro w1 T1 s1 b1))
      | (go_at_call 58; ((with_reducible refine (hD _ ((h.below b1 (Nat.le_refl _)).wide (Nat.le_refl _) b1.size)).mono ?_); rintro e w2 ⟨A2, c2, N2, rfl, hN2, O2, b2⟩; (have T2 := T1.below b2 (by omega)); (have z2 := b2.size)))
      | ((refine wpl_alloc (by rfl) 27 (by rfl) (.agg (zN).toArray) (zN) zeroNtp rfl ?_; intro w3 J3 s3 b3); (have T3 := T2.below b3 (by omega)); (have O3 := O2.below b3 (Nat.le_refl _)))
      | ((refine wpl_store (by rfl) 27 _ _ (by rfl) w2.heap.size (by rfl) _ (by rfl) _ rfl 27 _ J3 (by rfl) _ sizeNtp (by rfl) (by simp [Value.oneCell']) ?_; intro w4 J4 s4 g4); (have T4 := T3.but g4 (by omega)); (have O4 := O3.grown g4 (fun g e => by have := O2.blt g e; simp; omega)); (have hc2 := O2.cap_le); (have hcc2 := O2.cap_max); rw [hN2] at hc2; (have B4 := ((b1.trans (b2.mono (by omega))).trans (b3.mono (by omega))).trans (g4.below (B := w.heap.size) (by omega) (by omega))))
      | ((refine wpl_store (by rfl) 75 _ _ (by rfl) w.heap.size (by rfl) _ (by rfl) _ rfl 75 _ T4 (by rfl) _ sizePt (by rfl) (by simp [Value.oneCell']) ?_; intro w5 T5 s5 g5))
      )
    refine bodyPost_ret (res_cx Tryd.results30 (by rfl) T5 Tryd.underlying75 rfl sizePt (by rfl) (by rfl)) rfl ?_
    exact ⟨rfl, B4.trans (g5.below B4.size (Nat.le_refl _))⟩
  · rw [h3]
    have d2 : (prsE (dcR b) != 0) = true := by simpa using h2
    rw [h1] at hD
    obtain ⟨R, hR⟩ : ∃ R, R = dcR b := ⟨_, rfl⟩
    obtain ⟨LL, hLL⟩ : ∃ LL, LL = prsL R := ⟨_, rfl⟩
    obtain ⟨AA, hAA⟩ : ∃ AA, AA = prsA R := ⟨_, rfl⟩
    rw [← hR] at hRn
    rw [← hR, ← hLL] at hF
    rw [← hR] at hP
    rw [← hR] at hD
    simp only [← hLL, ← hAA] at hP
    obtain ⟨E, hE'⟩ : ∃ E, E = prsE (dcR b) := ⟨_, rfl⟩
    rw [← hE'] at d2 ⊢
    rw [← hR] at hE'
    simp only [← hE'] at hP
    generalize hII : fdD LL 260 = II at hF
    generalize hIBB : fdB LL 260 = IB at hF
    obtain ⟨N7, hN7⟩ : ∃ N, AA.length = N := ⟨_, rfl⟩
    obtain ⟨N9, hN9⟩ : ∃ N, II.length = N := ⟨_, rfl⟩
    have hP' : ∀ (W : World) (A : Option Addr) (c N : Nat), R.length = N → Bs W 0 W.heap.size A R → N ≤ c → c ≤ 9223372036854775807 → Calls Tryd.prog 59 #[.slice A N c] W fun e w' => ∃ A1 c1 n1 A2 c2, e = .returned (.tuple #[.slice A1 n1 c1, .slice A2 N7 c2, .int .i64 E]) ∧ LL.length = n1 ∧ XO w' W.heap.size A1 c1 LL ∧ Ow w' W.heap.size A2 c2 AA ∧ Below W.heap.size W w' := fun W A c N q1 q2 q3 q4 => (hP W A c N q1 q2 q3 q4).mono fun e w' ⟨A1, c1, n1, A2, c2, n2, e1, e2, e3, e4⟩ => by
      obtain rfl : N7 = n2 := hN7.symm.trans e3
      exact ⟨A1, c1, n1, A2, c2, e1, e2, e4⟩
    have hF' : ∀ (W : World) (A : Option Addr) (c N : Nat), LL.length = N → Xs W W.heap.size A LL → N ≤ c → c ≤ 9223372036854775807 → Calls Tryd.prog 31 #[.slice A N c, .int .i64 260] W fun e w' => ∃ A' c', e = .returned (.tuple #[.slice A' N9 c', .bool IB]) ∧ Ow w' W.heap.size A' c' II ∧ Below W.heap.size W w' := fun W A c N q1 q2 q3 q4 => (hF W A c N q1 q2 q3 q4).mono fun e w' ⟨A1, c1, n1, e1, e2, e3⟩ => by
      obtain rfl : N9 = n1 := hN9.symm.trans e2
      exact ⟨A1, c1, e1, e3⟩
    clear hP hF
    clear hV h1 h2 h3 hE hE' hR hLL hAA hF' hII hIBB
    go_enter Tryd.func30, Tryd.ntmps30
    go_wp2_with (first
      | ((refine wpl_alloc (by rfl) 75 (by rfl) (.agg (ptZ).toArray) (ptZ) zeroPt rfl ?_; intro w1 T1 s1 b1))
      | (go_at_call 58; ((with_reducible refine (hD _ ((h.below b1 (Nat.le_refl _)).wide (Nat.le_refl _) b1.size)).mono ?_); rintro e w2 ⟨A2, c2, N2, rfl, hN2, O2, b2⟩; (have T2 := T1.below b2 (by omega)); (have z2 := b2.size)))
      | ((refine wpl_alloc (by rfl) 27 (by rfl) (.agg (zN).toArray) (zN) zeroNtp rfl ?_; intro w3 J3 s3 b3); (have T3 := T2.below b3 (by omega)); (have O3 := O2.below b3 (Nat.le_refl _)))
      | ((refine wpl_store (by rfl) 27 _ _ (by rfl) w2.heap.size (by rfl) _ (by rfl) _ rfl 27 _ J3 (by rfl) _ sizeNtp (by rfl) (by simp [Value.oneCell']) ?_; intro w4 J4 s4 g4); (have T4 := T3.but g4 (by omega)); (have O4 := O3.grown g4 (fun g e => by have := O2.blt g e; simp; omega)); (have hc2 := O2.cap_le); (have hcc2 := O2.cap_max); rw [hN2] at hc2; (have B4 := ((b1.trans (b2.mono (by omega))).trans (b3.mono (by omega))).trans (g4.below (B := w.heap.size) (by omega) (by omega))))
      | ((refine wpl_store (by rfl) 75 _ _ (by rfl) w.heap.size (by rfl) _ (by rfl) _ rfl 75 _ T4 (by rfl) _ sizePt (by rfl) (by simp [Value.oneCell']) ?_; intro w5 T5 s5 g5))
      | (go_at_call 59; ((with_reducible refine (hP' _ _ _ _ hN2 (O4.bs.wide (Nat.zero_le _) (Nat.le_refl _)) hc2 hcc2).mono ?_); rintro e w6 ⟨A6, c6, n6, A7, c7, rfl, h6, X6, O7, b6⟩; (have k6 := X6.cap); rw [h6] at k6; (have T6 := T4.below b6 (by have := T4.lt; omega)); (have J6 := J4.below b6 (by have := J4.lt; omega)); (have B6 := B4.trans (b6.mono B4.size)); (have z6 := b6.size)))
      | ((refine wpl_store (by rfl) 75 _ _ (by rfl) w.heap.size (by rfl) _ (by rfl) _ rfl 75 _ T6 (by rfl) _ sizePt (by rfl) (by simp [Value.oneCell']) ?_; intro w8 T8 s8 g8))
      | (go_at_call 31; ((with_reducible refine (hF' _ _ _ _ h6 X6.xs k6.1 k6.2.1).mono ?_); rintro e w9 ⟨A9, c9, rfl, O9, b9⟩; (have T9 := T6.below b9 T6.lt); (have J9 := J6.below b9 J6.lt); (have B9 := B6.trans (b9.mono B6.size)); (have z9 := b9.size)))
      | ((refine wpl_store (by rfl) 75 _ _ (by rfl) w.heap.size (by rfl) _ (by rfl) _ rfl 75 _ T9 (by rfl) _ sizePt (by rfl) (by simp [Value.oneCell']) ?_; intro w10 T10 s10 g10)))
    refine bodyPost_ret (res_cx Tryd.results30 (by rfl) T8 Tryd.underlying75 rfl sizePt (by rfl) (by rfl)) rfl ?_
    exact ⟨rfl, B6.trans (g8.below B6.size (Nat.le_refl _))⟩
  · rw [h4]
    rw [h1] at hD
    obtain ⟨R, hR⟩ : ∃ R, R = dcR b := ⟨_, rfl⟩
    obtain ⟨LL, hLL⟩ : ∃ LL, LL = prsL R := ⟨_, rfl⟩
    obtain ⟨AA, hAA⟩ : ∃ AA, AA = prsA R := ⟨_, rfl⟩
    rw [← hR] at hRn
    rw [← hR, ← hLL] at hF
    rw [← hR] at hP
    rw [← hR] at hD
    simp only [← hLL, ← hAA] at hP
    rw [← hR] at h2
    simp only [h2] at hP
    have HI : ¬(AA.length = 12 ∧ (fdD LL 260).length = 16) := by rw [hAA, hLL, hR]; exact h3
    have hIB : fdB LL 260 = false → (fdD LL 260).length ≠ 16 := by
      intro hb
      unfold fdB at hb
      unfold fdD
      cases hf : LL.find? fun t => t.1 == 260 with
      | none => simp
      | some t => rw [hf] at hb; cases hb
    generalize hII : fdD LL 260 = II at hF
    generalize hIBB : fdB LL 260 = IB at hF
    obtain ⟨N7, hN7⟩ : ∃ N, AA.length = N := ⟨_, rfl⟩
    obtain ⟨N9, hN9⟩ : ∃ N, II.length = N := ⟨_, rfl⟩
    have hP' : ∀ (W : World) (A : Option Addr) (c N : Nat), R.length = N → Bs W 0 W.heap.size A R → N ≤ c → c ≤ 9223372036854775807 → Calls Tryd.prog 59 #[.slice A N c] W fun e w' => ∃ A1 c1 n1 A2 c2, e = .returned (.tuple #[.slice A1 n1 c1, .slice A2 N7 c2, .int .i64 0]) ∧ LL.length = n1 ∧ XO w' W.heap.size A1 c1 LL ∧ Ow w' W.heap.size A2 c2 AA ∧ Below W.heap.size W w' := fun W A c N q1 q2 q3 q4 => (hP W A c N q1 q2 q3 q4).mono fun e w' ⟨A1, c1, n1, A2, c2, n2, e1, e2, e3, e4⟩ => by
      obtain rfl : N7 = n2 := hN7.symm.trans e3
      exact ⟨A1, c1, n1, A2, c2, e1, e2, e4⟩
    have hF' : ∀ (W : World) (A : Option Addr) (c N : Nat), LL.length = N → Xs W W.heap.size A LL → N ≤ c → c ≤ 9223372036854775807 → Calls Tryd.prog 31 #[.slice A N c, .int .i64 260] W fun e w' => ∃ A' c', e = .returned (.tuple #[.slice A' N9 c', .bool IB]) ∧ Ow w' W.heap.size A' c' II ∧ Below W.heap.size W w' := fun W A c N q1 q2 q3 q4 => (hF W A c N q1 q2 q3 q4).mono fun e w' ⟨A1, c1, n1, e1, e2, e3⟩ => by
      obtain rfl : N9 = n1 := hN9.symm.trans e2
      exact ⟨A1, c1, e1, e3⟩
    clear hP hF
    rw [hII, hN7, hN9] at HI
    have hcase : (N7 ≠ 12) ∨ (N7 = 12 ∧ IB = false) ∨ (N7 = 12 ∧ IB = true ∧ N9 ≠ 16) := by
      by_cases q1 : N7 = 12
      · cases hb : IB with
        | false => exact .inr (.inl ⟨q1, rfl⟩)
        | true => exact .inr (.inr ⟨q1, rfl, fun q2 => HI ⟨q1, q2⟩⟩)
      · exact .inl q1
    clear HI hIB hV h1 h2 h3 h4 hE hR hLL hAA hII hIBB hN7
    rcases hcase with q1 | ⟨q1, q2⟩ | ⟨q1, q2, q3⟩
    · have d7 : ((N7 : Int) != 12) = true := by simp; omega
      clear q1 hN9
      go_enter Tryd.func30, Tryd.ntmps30
      go_wp2_with (first
        | ((refine wpl_alloc (by rfl) 75 (by rfl) (.agg (ptZ).toArray) (ptZ) zeroPt rfl ?_; intro w1 T1 s1 b1))
        | (go_at_call 58; ((with_reducible refine (hD _ ((h.below b1 (Nat.le_refl _)).wide (Nat.le_refl _) b1.size)).mono ?_); rintro e w2 ⟨A2, c2, N2, rfl, hN2, O2, b2⟩; (have T2 := T1.below b2 (by omega)); (have z2 := b2.size)))
        | ((refine wpl_alloc (by rfl) 27 (by rfl) (.agg (zN).toArray) (zN) zeroNtp rfl ?_; intro w3 J3 s3 b3); (have T3 := T2.below b3 (by omega)); (have O3 := O2.below b3 (Nat.le_refl _)))
        | ((refine wpl_store (by rfl) 27 _ _ (by rfl) w2.heap.size (by rfl) _ (by rfl) _ rfl 27 _ J3 (by rfl) _ sizeNtp (by rfl) (by simp [Value.oneCell']) ?_; intro w4 J4 s4 g4); (have T4 := T3.but g4 (by omega)); (have O4 := O3.grown g4 (fun g e => by have := O2.blt g e; simp; omega)); (have hc2 := O2.cap_le); (have hcc2 := O2.cap_max); rw [hN2] at hc2; (have B4 := ((b1.trans (b2.mono (by omega))).trans (b3.mono (by omega))).trans (g4.below (B := w.heap.size) (by omega) (by omega))))
        | ((refine wpl_store (by rfl) 75 _ _ (by rfl) w.heap.size (by rfl) _ (by rfl) _ rfl 75 _ T4 (by rfl) _ sizePt (by rfl) (by simp [Value.oneCell']) ?_; intro w5 T5 s5 g5))
        | (go_at_call 59; ((with_reducible refine (hP' _ _ _ _ hN2 (O4.bs.wide (Nat.zero_le _) (Nat.le_refl _)) hc2 hcc2).mono ?_); rintro e w6 ⟨A6, c6, n6, A7, c7, rfl, h6, X6, O7, b6⟩; (have k6 := X6.cap); rw [h6] at k6; (have T6 := T4.below b6 (by have := T4.lt; omega)); (have J6 := J4.below b6 (by have := J4.lt; omega)); (have B6 := B4.trans (b6.mono B4.size)); (have z6 := b6.size)))
        | ((refine wpl_store (by rfl) 75 _ _ (by rfl) w.heap.size (by rfl) _ (by rfl) _ rfl 75 _ T6 (by rfl) _ sizePt (by rfl) (by simp [Value.oneCell']) ?_; intro w8 T8 s8 g8))
        | (go_at_call 31; ((with_reducible refine (hF' _ _ _ _ h6 X6.xs k6.1 k6.2.1).mono ?_); rintro e w9 ⟨A9, c9, rfl, O9, b9⟩; (have T9 := T6.below b9 T6.lt); (have J9 := J6.below b9 J6.lt); (have B9 := B6.trans (b9.mono B6.size)); (have z9 := b9.size)))
        | ((refine wpl_store (by rfl) 75 _ _ (by rfl) w.heap.size (by rfl) _ (by rfl) _ rfl 75 _ T9 (by rfl) _ sizePt (by rfl) (by simp [Value.oneCell']) ?_; intro w10 T10 s10 g10)))
      refine bodyPost_ret (res_cx Tryd.results30 (by rfl) T10 Tryd.underlying75 rfl sizePt (by rfl) (by rfl)) rfl ?_
      exact ⟨rfl, B9.trans (g10.below B9.size (Nat.le_refl _))⟩
    · subst q2 q1
      clear hN9
      go_enter Tryd.func30, Tryd.ntmps30
      go_wp2_with (first
        | ((refine wpl_alloc (by rfl) 75 (by rfl) (.agg (ptZ).toArray) (ptZ) zeroPt rfl ?_; intro w1 T1 s1 b1))
        | (go_at_call 58; ((with_reducible refine (hD _ ((h.below b1 (Nat.le_refl _)).wide (Nat.le_refl _) b1.size)).mono ?_); rintro e w2 ⟨A2, c2, N2, rfl, hN2, O2, b2⟩; (have T2 := T1.below b2 (by omega)); (have z2 := b2.size)))
        | ((refine wpl_alloc (by rfl) 27 (by rfl) (.agg (zN).toArray) (zN) zeroNtp rfl ?_; intro w3 J3 s3 b3); (have T3 := T2.below b3 (by omega)); (have O3 := O2.below b3 (Nat.le_refl _)))
        | ((refine wpl_store (by rfl) 27 _ _ (by rfl) w2.heap.size (by rfl) _ (by rfl) _ rfl 27 _ J3 (by rfl) _ sizeNtp (by rfl) (by simp [Value.oneCell']) ?_; intro w4 J4 s4 g4); (have T4 := T3.but g4 (by omega)); (have O4 := O3.grown g4 (fun g e => by have := O2.blt g e; simp; omega)); (have hc2 := O2.cap_le); (have hcc2 := O2.cap_max); rw [hN2] at hc2; (have B4 := ((b1.trans (b2.mono (by omega))).trans (b3.mono (by omega))).trans (g4.below (B := w.heap.size) (by omega) (by omega))))
        | ((refine wpl_store (by rfl) 75 _ _ (by rfl) w.heap.size (by rfl) _ (by rfl) _ rfl 75 _ T4 (by rfl) _ sizePt (by rfl) (by simp [Value.oneCell']) ?_; intro w5 T5 s5 g5))
        | (go_at_call 59; ((with_reducible refine (hP' _ _ _ _ hN2 (O4.bs.wide (Nat.zero_le _) (Nat.le_refl _)) hc2 hcc2).mono ?_); rintro e w6 ⟨A6, c6, n6, A7, c7, rfl, h6, X6, O7, b6⟩; (have k6 := X6.cap); rw [h6] at k6; (have T6 := T4.below b6 (by have := T4.lt; omega)); (have J6 := J4.below b6 (by have := J4.lt; omega)); (have B6 := B4.trans (b6.mono B4.size)); (have z6 := b6.size)))
        | ((refine wpl_store (by rfl) 75 _ _ (by rfl) w.heap.size (by rfl) _ (by rfl) _ rfl 75 _ T6 (by rfl) _ sizePt (by rfl) (by simp [Value.oneCell']) ?_; intro w8 T8 s8 g8))
        | (go_at_call 31; ((with_reducible refine (hF' _ _ _ _ h6 X6.xs k6.1 k6.2.1).mono ?_); rintro e w9 ⟨A9, c9, rfl, O9, b9⟩; (have T9 := T6.below b9 T6.lt); (have J9 := J6.below b9 J6.lt); (have B9 := B6.trans (b9.mono B6.size)); (have z9 := b9.size)))
        | ((refine wpl_store (by rfl) 75 _ _ (by rfl) w.heap.size (by rfl) _ (by rfl) _ rfl 75 _ T9 (by rfl) _ sizePt (by rfl) (by simp [Value.oneCell']) ?_; intro w10 T10 s10 g10)))
      refine bodyPost_ret (res_cx Tryd.results30 (by rfl) T10 Tryd.underlying75 rfl sizePt (by rfl) (by rfl)) rfl ?_
      exact ⟨rfl, B9.trans (g10.below B9.size (Nat.le_refl _))⟩
    · subst q2 q1
      have d9 : ((N9 : Int) != 16) = true := by simp; omega
      clear q3 hN9
      go_enter Tryd.func30, Tryd.ntmps30
      go_wp2_with (first
        | ((refine wpl_alloc (by rfl) 75 (by rfl) (.agg (ptZ).toArray) (ptZ) zeroPt rfl ?_; intro w1 T1 s1 b1))
        | (go_at_call 58; ((with_reducible refine (hD _ ((h.below b1 (Nat.le_refl _)).wide (Nat.le_refl _) b1.size)).mono ?_); rintro e w2 ⟨A2, c2, N2, rfl, hN2, O2, b2⟩; (have T2 := T1.below b2 (by omega)); (have z2 := b2.size)))
        | ((refine wpl_alloc (by rfl) 27 (by rfl) (.agg (zN).toArray) (zN) zeroNtp rfl ?_; intro w3 J3 s3 b3); (have T3 := T2.below b3 (by omega)); (have O3 := O2.below b3 (Nat.le_refl _)))
        | ((refine wpl_store (by rfl) 27 _ _ (by rfl) w2.heap.size (by rfl) _ (by rfl) _ rfl 27 _ J3 (by rfl) _ sizeNtp (by rfl) (by simp [Value.oneCell']) ?_; intro w4 J4 s4 g4); (have T4 := T3.but g4 (by omega)); (have O4 := O3.grown g4 (fun g e => by have := O2.blt g e; simp; omega)); (have hc2 := O2.cap_le); (have hcc2 := O2.cap_max); rw [hN2] at hc2; (have B4 := ((b1.trans (b2.mono (by omega))).trans (b3.mono (by omega))).trans (g4.below (B := w.heap.size) (by omega) (by omega))))
        | ((refine wpl_store (by rfl) 75 _ _ (by rfl) w.heap.size (by rfl) _ (by rfl) _ rfl 75 _ T4 (by rfl) _ sizePt (by rfl) (by simp [Value.oneCell']) ?_; intro w5 T5 s5 g5))
        | (go_at_call 59; ((with_reducible refine (hP' _ _ _ _ hN2 (O4.bs.wide (Nat.zero_le _) (Nat.le_refl _)) hc2 hcc2).mono ?_); rintro e w6 ⟨A6, c6, n6, A7, c7, rfl, h6, X6, O7, b6⟩; (have k6 := X6.cap); rw [h6] at k6; (have T6 := T4.below b6 (by have := T4.lt; omega)); (have J6 := J4.below b6 (by have := J4.lt; omega)); (have B6 := B4.trans (b6.mono B4.size)); (have z6 := b6.size)))
        | ((refine wpl_store (by rfl) 75 _ _ (by rfl) w.heap.size (by rfl) _ (by rfl) _ rfl 75 _ T6 (by rfl) _ sizePt (by rfl) (by simp [Value.oneCell']) ?_; intro w8 T8 s8 g8))
        | (go_at_call 31; ((with_reducible refine (hF' _ _ _ _ h6 X6.xs k6.1 k6.2.1).mono ?_); rintro e w9 ⟨A9, c9, rfl, O9, b9⟩; (have T9 := T6.below b9 T6.lt); (have J9 := J6.below b9 J6.lt); (have B9 := B6.trans (b9.mono B6.size)); (have z9 := b9.size)))
        | ((refine wpl_store (by rfl) 75 _ _ (by rfl) w.heap.size (by rfl) _ (by rfl) _ rfl 75 _ T9 (by rfl) _ sizePt (by rfl) (by simp [Value.oneCell']) ?_; intro w10 T10 s10 g10)))
      refine bodyPost_ret (res_cx Tryd.results30 (by rfl) T10 Tryd.underlying75 rfl sizePt (by rfl) (by rfl)) rfl ?_
      exact ⟨rfl, B9.trans (g10.below B9.size (Nat.le_refl _))⟩
  · exact absurd h5 hE
set_option maxRecDepth 100000 in
set_option maxHeartbeats 8000000 in
theorem split_ok (A : Option Addr) (n c : Nat) (b : List Int) (w : World) (hn : b.length = n) (h : Bs w 0 w.heap.size A b) (hnc : n ≤ c) (hc : c ≤ 9223372036854775807) (hm : n ≤ 1000000) (hE : spE b = 0) (l v m st po pr rd rp id ref org rec xmt : Int) (hV : dcV b = ntp l v m st po pr rd rp id ref org rec xmt) :
    Calls Tryd.prog 30 #[.slice A n c] w fun e w' => ∃ A1 n1 c1 A2 c2 A4 c4, e = .returned (.tuple #[.agg (ptL l v m st po pr rd rp id ref org rec xmt A1 n1 c1 A2 16 c2 A (n - 12) c A4 12 c4).toArray, .int .i64 0]) ∧ (spL b).length = n1 ∧ XO w' w.heap.size A1 c1 (spL b) ∧ Ow w' w.heap.size A2 c2 (spI b) ∧ Ow w' w.heap.size A4 c4 (spA b) ∧ Below w.heap.size w w' := by
  have hD := fun W hB => decode_u A n c b W hn hB hm
  have hRn := dcR_len hn
  have hRb : Byt (dcR b) := by unfold dcR; split; exact h.byt.drop _; exact Byt.nil
  rw [hV] at hD
  have hP := fun W A c N hN hB hc hcc => parse_u (parse_any A N c (dcR b) W hN hB hc hcc (by omega))
  have hsz := fun k => dt_small hRb (k := k)
  have hF := fun W A c N hN hX hc hcc => find_u A c (prsL (dcR b)) N 260 W hN hX hc hcc (fun k _ => Nat.le_trans (hsz k) (by omega))
  rcases spE_cases b with ⟨h1, h2⟩ | ⟨h1, h2, h3⟩ | ⟨h1, h2, h3, h4⟩ | ⟨h1, h2, h3, h4, h5⟩
  · exact absurd (h2.symm.trans hE) h1
  · exact absurd (h3.symm.trans hE) h2
  · rw [h4] at hE; cases hE
  · obtain ⟨hn60, _⟩ := spA_n h.byt hn h1 h2 h3
    have eI : spI b = fdD (prsL (dcR b)) 260 := rfl
    have eA : spA b = prsA (dcR b) := rfl
    have eL : spL b = prsL (dcR b) := rfl
    rw [eI] at h4
    rw [eA] at h3
    rw [eI, eA, eL]
    rw [h1] at hD
    have hIB : fdB (prsL (dcR b)) 260 = true := by
      cases hb : fdB (prsL (dcR b)) 260 with
      | true => rfl
      | false =>
        exfalso
        unfold fdB at hb
        unfold fdD at h4
        cases hf : (prsL (dcR b)).find? fun t => t.1 == 260 with
        | none => rw [hf] at h4; simp at h4
        | some t => rw [hf] at hb; cases hb
    obtain ⟨R, hR⟩ : ∃ R, R = dcR b := ⟨_, rfl⟩
    obtain ⟨LL, hLL⟩ : ∃ LL, LL = prsL R := ⟨_, rfl⟩
    obtain ⟨AA, hAA⟩ : ∃ AA, AA = prsA R := ⟨_, rfl⟩
    rw [← hR] at hRn h2
    rw [← hR, ← hLL] at hF
    rw [← hR] at hP
    rw [← hR] at hD
    simp only [← hR] at h3 h4 hIB ⊢
    simp only [← hLL] at h4 hIB ⊢
    rw [← hAA] at h3
    simp only [← hAA]
    simp only [← hLL, ← hAA] at hP
    simp only [h2] at hP
    generalize hII : fdD LL 260 = II at hF h4 ⊢
    rw [hIB] at hF
    have hP' : ∀ (W : World) (A : Option Addr) (c N : Nat), R.length = N → Bs W 0 W.heap.size A R → N ≤ c → c ≤ 9223372036854775807 → Calls Tryd.prog 59 #[.slice A N c] W fun e w' => ∃ A1 c1 n1 A2 c2, e = .returned (.tuple #[.slice A1 n1 c1, .slice A2 12 c2, .int .i64 0]) ∧ LL.length = n1 ∧ XO w' W.heap.size A1 c1 LL ∧ Ow w' W.heap.size A2 c2 AA ∧ Below W.heap.size W w' := fun W A c N q1 q2 q3 q4 => (hP W A c N q1 q2 q3 q4).mono fun e w' ⟨A1, c1, n1, A2, c2, n2, e1, e2, e3, e4⟩ => by
      obtain rfl : 12 = n2 := h3.symm.trans e3
      exact ⟨A1, c1, n1, A2, c2, e1, e2, e4⟩
    have hF' : ∀ (W : World) (A : Option Addr) (c N : Nat), LL.length = N → Xs W W.heap.size A LL → N ≤ c → c ≤ 9223372036854775807 → Calls Tryd.prog 31 #[.slice A N c, .int .i64 260] W fun e w' => ∃ A' c', e = .returned (.tuple #[.slice A' 16 c', .bool true]) ∧ Ow w' W.heap.size A' c' II ∧ Below W.heap.size W w' := fun W A c N q1 q2 q3 q4 => (hF W A c N q1 q2 q3 q4).mono fun e w' ⟨A1, c1, n1, e1, e2, e3⟩ => by
      obtain rfl : 16 = n1 := h4.symm.trans e2
      exact ⟨A1, c1, e1, e3⟩
    have HI := Lib.hid h4
    have q0 : (0 : Int) ≤ (n : Int) - 12 := by omega
    have q1 : (n : Int) - 12 ≤ c := by omega
    have q2 : ((n : Int) - 12).toNat = n - 12 := by omega
    have q3 : IntKind.i64.wrap ((n : Int) - 12) = (n : Int) - 12 := IntWalk.i64_in _ (by omega)
    clear hV h1 h2 h3 h4 h5 hE hR hLL hAA hII hIB eI eA eL hP hF
    go_enter Tryd.func30, Tryd.ntmps30
    go_wp2_with (first
      | ((refine wpl_alloc (by rfl) 75 (by rfl) (.agg (ptZ).toArray) (ptZ) zeroPt rfl ?_; intro w1 T1 s1 b1))
      | (go_at_call 58; ((with_reducible refine (hD _ ((h.below b1 (Nat.le_refl _)).wide (Nat.le_refl _) b1.size)).mono ?_); rintro e w2 ⟨A2, c2, N2, rfl, hN2, O2, b2⟩; (have T2 := T1.below b2 (by omega)); (have z2 := b2.size)))
      | ((refine wpl_alloc (by rfl) 27 (by rfl) (.agg (zN).toArray) (zN) zeroNtp rfl ?_; intro w3 J3 s3 b3); (have T3 := T2.below b3 (by omega)); (have O3 := O2.below b3 (Nat.le_refl _)))
      | ((refine wpl_store (by rfl) 27 _ _ (by rfl) w2.heap.size (by rfl) _ (by rfl) _ rfl 27 _ J3 (by rfl) _ sizeNtp (by rfl) (by simp [Value.oneCell']) ?_; intro w4 J4 s4 g4); (have T4 := T3.but g4 (by omega)); (have O4 := O3.grown g4 (fun g e => by have := O2.blt g e; simp; omega)); (have hc2 := O2.cap_le); (have hcc2 := O2.cap_max); rw [hN2] at hc2; (have B4 := ((b1.trans (b2.mono (by omega))).trans (b3.mono (by omega))).trans (g4.below (B := w.heap.size) (by omega) (by omega))))
      | ((refine wpl_store (by rfl) 75 _ _ (by rfl) w.heap.size (by rfl) _ (by rfl) _ rfl 75 _ T4 (by rfl) _ sizePt (by rfl) (by simp [Value.oneCell']) ?_; intro w5 T5 s5 g5))
      | (go_at_call 59; ((with_reducible refine (hP' _ _ _ _ hN2 (O4.bs.wide (Nat.zero_le _) (Nat.le_refl _)) hc2 hcc2).mono ?_); rintro e w6 ⟨A6, c6, n6, A7, c7, rfl, h6, X6, O7, b6⟩; (have k6 := X6.cap); rw [h6] at k6; (have T6 := T4.below b6 (by have := T4.lt; omega)); (have J6 := J4.below b6 (by have := J4.lt; omega)); (have B6 := B4.trans (b6.mono B4.size)); (have z6 := b6.size)))
      | ((refine wpl_store (by rfl) 75 _ _ (by rfl) w.heap.size (by rfl) _ (by rfl) _ rfl 75 _ T6 (by rfl) _ sizePt (by rfl) (by simp [Value.oneCell']) ?_; intro w8 T8 s8 g8))
      | (go_at_call 31; ((with_reducible refine (hF' _ _ _ _ h6 X6.xs k6.1 k6.2.1).mono ?_); rintro e w9 ⟨A9, c9, rfl, O9, b9⟩; (have T9 := T6.below b9 T6.lt); (have J9 := J6.below b9 J6.lt); (have B9 := B6.trans (b9.mono B6.size)); (have z9 := b9.size)))
      | ((refine wpl_store (by rfl) 75 _ _ (by rfl) w.heap.size (by rfl) _ (by rfl) _ rfl 75 _ T9 (by rfl) _ sizePt (by rfl) (by simp [Value.oneCell']) ?_; intro w10 T10 s10 g10))
      | (refine wpl_load (by rfl) 27 _ (by rfl) w2.heap.size (by rfl) 27 _ J9 _ Tryd.underlying27 rfl _ sizeNtp (by rfl) ?_))
    refine bodyPost_ret (res_cx Tryd.results30 (by rfl) T10 Tryd.underlying75 rfl sizePt (by rfl) (by rfl)) rfl ?_
    have zw := B4.size
    have zw6 := B6.size
    have X9 := X6.below b9 (Nat.le_refl _)
    have O79 := O7.below b9 (Nat.le_refl _)
    have hlt : w.heap.size < w4.heap.size := T4.lt
    exact ⟨A6, n6, c6, A9, c9, A7, c7, rfl, h6, (X9.but g10 hlt).wide zw, (O9.grown g10 (fun g e => by have := O9.blt g e; simp; omega)).wide zw6, (O79.grown g10 (fun g e => by have := O79.blt g e; simp; omega)).wide zw, B9.trans (g10.below B9.size (Nat.le_refl _))⟩
end Go.Proofs.YtachhbbofemfdaaDoor
namespace Go.Proofs.YtachhbbofemfdaaDoor
open Go.RowKit
set_option linter.unusedSimpArgs false
set_option linter.unusedVariables false
set_option maxRecDepth 100000
def prvB (k0 k1 : Int) (D AB : List Int) : Bool := (numB (AB.take 4) == 0) && (tagF k0 k1 D == numB ((AB.drop 4).take 8))
set_option maxRecDepth 100000 in
set_option maxHeartbeats 4000000 in
theorem proved_any (l v m st po pr rd rp id ref org rec xmt : Int) (A1 : Option Addr) (n1 c1 : Nat) (A2 : Option Addr) (n2 c2 : Nat) (A3 : Option Addr) (n3 c3 : Nat) (A4 : Option Addr) (c4 : Nat) (k0 k1 : Int) (D AB : List Int) (w : World)
    (hD : D.length = n3) (h3 : Bs w 0 w.heap.size A3 D) (hm : n3 ≤ 1000000) (hn3 : n3 ≤ c3) (hc3 : c3 ≤ 9223372036854775807) (hA : AB.length = 12) (h4 : Bs w 0 w.heap.size A4 AB) (hn4 : 12 ≤ c4) (hc4 : c4 ≤ 9223372036854775807) (hk0 : U64 k0) (hk1 : U64 k1) (hR : Rnd w) :
    Calls Tryd.prog 33 #[.agg (ptL l v m st po pr rd rp id ref org rec xmt A1 n1 c1 A2 n2 c2 A3 n3 c3 A4 12 c4).toArray, keyV k0 k1] w fun e w' => e = .returned (.bool (prvB k0 k1 D AB)) ∧ Below w.heap.size w w' := by
  have hS := fun W hB => split_12 A4 c4 0 w.heap.size AB W hA hB hn4 hc4
  have hC := fun W hB hR => macchk_any k0 k1 (numB ((AB.drop 4).take 8)) A3 n3 c3 D W hk0 hk1 hD hB hm hn3 hc3 hR
  unfold prvB
  generalize tagF k0 k1 D = T at hC ⊢
  generalize numB ((AB.drop 4).take 8) = Y at hC hS ⊢
  generalize numB (AB.take 4) = X at hS ⊢
  cases hX : X == 0 with
  | true =>
    go_enter Tryd.func33, Tryd.ntmps33
    go_wp2_with (first
      | (refine wpl_box (by rfl) 75 _ (by rfl) _ (ptL l v m st po pr rd rp id ref org rec xmt A1 n1 c1 A2 n2 c2 A3 n3 c3 A4 12 c4) (by rfl) rfl ?_; intro w1 P1 s1 b1)
      | ((refine wpl_box (by rfl) 29 _ (by rfl) _ (keyL k0 k1) (by rfl) rfl ?_; intro w2 K2 s2 b2); (have P2 := P1.below b2 (by omega)); (have b12 := b1.trans (b2.mono (by omega))); (have h42 := h4.below b12 (Nat.le_refl _)); (have h32 := (h3.below b12 (Nat.le_refl _)).wide (Nat.le_refl _) b12.size); (have R2 := hR.below b12 hR.lt))
      | (refine wpl_loadf (by rfl) 23 _ (by rfl) w.heap.size 16 (by rfl) _ _ P2 _ rfl _ Tryd.underlying23 rfl ?_)
      | (refine wpl_loadf (by rfl) 23 _ (by rfl) w.heap.size 15 (by rfl) _ _ P2 _ rfl _ Tryd.underlying23 rfl ?_)
      | (refine wpl_load (by rfl) 29 _ (by rfl) w1.heap.size (by rfl) 29 _ K2 _ Tryd.underlying29 rfl _ sizeKey (by rfl) ?_)
      | (go_at_call 63; ((with_reducible refine (hS _ h42).mono ?_); rintro e _ ⟨rfl, rfl⟩))
      | (go_at_call 64; ((with_reducible refine (hC _ h32 R2).mono ?_); rintro e w3 ⟨rfl, b3⟩)))
    go_ret
    exact ⟨by simp, b12.trans (b3.mono b12.size)⟩
  | false =>
    go_enter Tryd.func33, Tryd.ntmps33
    go_wp2_with (first
      | (refine wpl_box (by rfl) 75 _ (by rfl) _ (ptL l v m st po pr rd rp id ref org rec xmt A1 n1 c1 A2 n2 c2 A3 n3 c3 A4 12 c4) (by rfl) rfl ?_; intro w1 P1 s1 b1)
      | ((refine wpl_box (by rfl) 29 _ (by rfl) _ (keyL k0 k1) (by rfl) rfl ?_; intro w2 K2 s2 b2); (have P2 := P1.below b2 (by omega)); (have b12 := b1.trans (b2.mono (by omega))); (have h42 := h4.below b12 (Nat.le_refl _)))
      | (refine wpl_loadf (by rfl) 23 _ (by rfl) w.heap.size 16 (by rfl) _ _ P2 _ rfl _ Tryd.underlying23 rfl ?_)
      | (go_at_call 63; ((with_reducible refine (hS _ h42).mono ?_); rintro e _ ⟨rfl, rfl⟩)))
    go_ret
    exact ⟨by simp, b12⟩
/-! ### a message that was sealed -/
theorem dcV_enc (l v m st po pr rd rp id ref org rec xmt : Int) (beh : List Int) (hk : nchk l v m st po pr = 0) (h6 : 0 ≤ rd ∧ rd ≤ 4294967295) (h7 : 0 ≤ rp ∧ rp ≤ 4294967295) (h8 : 0 ≤ id ∧ id ≤ 4294967295) (h9 : 0 ≤ ref ∧ ref ≤ 18446744073709551615) (h10 : 0 ≤ org ∧ org ≤ 18446744073709551615) (h11 : 0 ≤ rec ∧ rec ≤ 18446744073709551615) (h12 : 0 ≤ xmt ∧ xmt ≤ 18446744073709551615) : dcE (encH l v m st po pr rd rp id ref org rec xmt ++ beh) = 0 ∧ dcV (encH l v m st po pr rd rp id ref org rec xmt ++ beh) = ntp l v m st po pr rd rp id ref org rec xmt ∧ dcR (encH l v m st po pr rd rp id ref org rec xmt ++ beh) = beh := by
  obtain ⟨L, hL, f0, f1, f2, f3, f4, f5, f6, f7, f8, f9, f10, fd⟩ := encH_back l v m st po pr rd rp id ref org rec xmt beh hk h6 h7 h8 h9 h10 h11 h12
  obtain ⟨kl, kv, km, kst, kpo, kpr⟩ := nchk_ok hk
  rw [← hL]
  have hLn : 48 ≤ L.length := by rw [hL, List.length_append, encH_len]; omega
  have q1 : (l * 64 + v * 8 + m) / 64 = l := by omega
  have q2 : (l * 64 + v * 8 + m) / 8 % 8 = v := by omega
  have q3 : (l * 64 + v * 8 + m) % 8 = m := by omega
  have e : dcE L = 0 := by unfold dcE; rw [if_neg (by omega), f0, q2, if_pos (by omega)]
  refine ⟨e, ?_, ?_⟩
  · unfold dcV
    rw [e]
    simp only [z0_zero]
    rw [f0, f1, f2, f3, f4, f5, f6, f7, f8, f9, f10, q1, q2, q3]
  · unfold dcR; rw [if_pos e]; exact fd
theorem msg_split (l v m st po pr rd rp id ref org rec xmt : Int) (L : Flds) (k0 k1 : Int) (hk : nchk l v m st po pr = 0) (h6 : 0 ≤ rd ∧ rd ≤ 4294967295) (h7 : 0 ≤ rp ∧ rp ≤ 4294967295) (h8 : 0 ≤ id ∧ id ≤ 4294967295) (h9 : 0 ≤ ref ∧ ref ≤ 18446744073709551615) (h10 : 0 ≤ org ∧ org ≤ 18446744073709551615) (h11 : 0 ≤ rec ∧ rec ≤ 18446744073709551615) (h12 : 0 ≤ xmt ∧ xmt ≤ 18446744073709551615) (hv : AllV L) (h16 : L.length ≤ 16) :
    dcE (msgB l v m st po pr rd rp id ref org rec xmt L k0 k1) = 0 ∧ dcV (msgB l v m st po pr rd rp id ref org rec xmt L k0 k1) = ntp l v m st po pr rd rp id ref org rec xmt ∧ prsE (dcR (msgB l v m st po pr rd rp id ref org rec xmt L k0 k1)) = 0 ∧ spL (msgB l v m st po pr rd rp id ref org rec xmt L k0 k1) = L ∧ spA (msgB l v m st po pr rd rp id ref org rec xmt L k0 k1) = athB k0 k1 (bdyB l v m st po pr rd rp id ref org rec xmt L) := by
  have e : msgB l v m st po pr rd rp id ref org rec xmt L k0 k1 = encH l v m st po pr rd rp id ref org rec xmt ++ (fldsB L ++ athB k0 k1 (bdyB l v m st po pr rd rp id ref org rec xmt L)) := by unfold msgB bdyB; rw [List.append_assoc]
  obtain ⟨e1, e2, e3⟩ := dcV_enc l v m st po pr rd rp id ref org rec xmt (fldsB L ++ athB k0 k1 (bdyB l v m st po pr rd rp id ref org rec xmt L)) hk h6 h7 h8 h9 h10 h11 h12
  obtain ⟨p1, p2, p3⟩ := prs_of (a := athB k0 k1 (bdyB l v m st po pr rd rp id ref org rec xmt L)) hv h16 (.inr (athB_len _ _ _))
  unfold spL spA
  rw [e, e1, e2, e3]
  exact ⟨rfl, rfl, p3, p1, p2⟩
theorem msg_body (l v m st po pr rd rp id ref org rec xmt : Int) (L : Flds) (k0 k1 : Int) : (msgB l v m st po pr rd rp id ref org rec xmt L k0 k1).take ((msgB l v m st po pr rd rp id ref org rec xmt L k0 k1).length - 12) = bdyB l v m st po pr rd rp id ref org rec xmt L := by
  have : (msgB l v m st po pr rd rp id ref org rec xmt L k0 k1).length - 12 = (bdyB l v m st po pr rd rp id ref org rec xmt L).length := by rw [msgB_len, bdyB_len]; omega
  rw [this]
  exact List.take_left' rfl
theorem ath_prv (k0 k1 : Int) (D : List Int) (a0 a1 : Int) : prvB a0 a1 D (athB k0 k1 D) = (tagF a0 a1 D == tagF k0 k1 D) := by
  unfold prvB athB
  have ht := tagF_u64 k0 k1 D
  rw [auth_id _ (by omega) (by omega), auth_tag 0 ht.1 ht.2]
  simp
theorem ath_self (k0 k1 : Int) (D : List Int) : prvB k0 k1 D (athB k0 k1 D) = true := by rw [ath_prv]; simp
end Go.Proofs.YtachhbbofemfdaaDoor
