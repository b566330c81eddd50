/- The jar of cookies: Open of the reference. The jar of cookies: the plain laws: what was sealed is opened. -/
import Derived.Test.YtachhbbofemfdaaDoorGXz13
import Derived.Test.YtachhbbofemfdaaDoorGXz6
import Derived.DeepKeys
namespace Go.Proofs.YtachhbbofemfdaaDoor
open Go.RowKit
set_option linter.unusedSimpArgs false
set_option linter.unusedVariables false
set_option maxRecDepth 100000
open Go.RowKit
set_option maxHeartbeats 4000000 in
theorem ropen_len (bj : Nat) (s k g : Int) (A : Option Addr) (n c : Nat) (l : List Int) (w : World) (hn : l.length = n) (h : n ≠ 52) :
    Calls Tryd.prog 37 #[.pointer (some ⟨bj, 0, none⟩), .slice A n c] w fun e w' => e = .returned (opV s k g l) ∧ Below w.heap.size w w' := by
  by_cases h1 : n < 52
  · have hE : Hid (opV s k g l = .tuple #[keyV 0 0, keyV 0 0, .int .i64 5]) := opV_err (by unfold opE; rw [if_pos (by omega)]) (by decide)
    have d1 : decide ((n : Int) < 52) = true := decide_eq_true (by omega)
    clear h h1
    go_enter Tryd.func37, Tryd.ntmps37
    go_wp2_with (first
      | ((with_reducible show wpList _ _ _ (⟨some 4, _, _, _, _, _⟩ :: _) _ _); refine wpl_alloc (by rfl) 29 (by rfl) (keyV 0 0) (keyL 0 0) zeroKey rfl ?_; intro w1 X1 s1 b1)
      | (((with_reducible show wpList _ _ _ (⟨some 5, _, _, _, _, _⟩ :: _) _ _); refine wpl_alloc (by rfl) 29 (by rfl) (keyV 0 0) (keyL 0 0) zeroKey rfl ?_; intro w2 Y2 s2 b2); (have X2 := X1.below b2 (by omega)))
      | ((refine wpl_store (by rfl) 29 _ _ (by rfl) w.heap.size (by rfl) _ (by rfl) (keyL 0 0) rfl 29 _ X2 (show (2 : Nat) = 2 from rfl) _ sizeKey (by rfl) (by simp [Value.oneCell']) ?_; intro w3 X3 s3 g3); (have Y3 := Y2.but g3 (by omega)))
      | ((refine wpl_store (by rfl) 29 _ _ (by rfl) w1.heap.size (by rfl) _ (by rfl) (keyL 0 0) rfl 29 _ Y3 (show (2 : Nat) = 2 from rfl) _ sizeKey (by rfl) (by simp [Value.oneCell']) ?_; intro w4 Y4 s4 g4); (have X4 := X3.but g4 (by omega))))
    refine bodyPost_ret (res_ccx Tryd.results37 (by rfl) (by rfl) X4 Y4 Tryd.underlying29 rfl sizeKey (show (2 : Nat) = 2 from rfl) (show (2 : Nat) = 2 from rfl) (by rfl)) rfl ?_
    exact ⟨by rw [hE.out]; rfl, ((b1.trans (b2.mono (by omega))).trans (g3.below (by omega) (by omega))).trans (g4.below (by omega) (by omega))⟩
  · have hE : Hid (opV s k g l = .tuple #[keyV 0 0, keyV 0 0, .int .i64 6]) := opV_err (by unfold opE; rw [if_neg (by omega), if_pos (by omega)]) (by decide)
    have d1 : decide ((n : Int) < 52) = false := decide_eq_false (by omega)
    have d2 : decide ((52 : Int) < n) = true := decide_eq_true (by omega)
    clear h h1
    go_enter Tryd.func37, Tryd.ntmps37
    go_wp2_with (first
      | ((with_reducible show wpList _ _ _ (⟨some 4, _, _, _, _, _⟩ :: _) _ _); refine wpl_alloc (by rfl) 29 (by rfl) (keyV 0 0) (keyL 0 0) zeroKey rfl ?_; intro w1 X1 s1 b1)
      | (((with_reducible show wpList _ _ _ (⟨some 5, _, _, _, _, _⟩ :: _) _ _); refine wpl_alloc (by rfl) 29 (by rfl) (keyV 0 0) (keyL 0 0) zeroKey rfl ?_; intro w2 Y2 s2 b2); (have X2 := X1.below b2 (by omega)))
      | ((refine wpl_store (by rfl) 29 _ _ (by rfl) w.heap.size (by rfl) _ (by rfl) (keyL 0 0) rfl 29 _ X2 (show (2 : Nat) = 2 from rfl) _ sizeKey (by rfl) (by simp [Value.oneCell']) ?_; intro w3 X3 s3 g3); (have Y3 := Y2.but g3 (by omega)))
      | ((refine wpl_store (by rfl) 29 _ _ (by rfl) w1.heap.size (by rfl) _ (by rfl) (keyL 0 0) rfl 29 _ Y3 (show (2 : Nat) = 2 from rfl) _ sizeKey (by rfl) (by simp [Value.oneCell']) ?_; intro w4 Y4 s4 g4); (have X4 := X3.but g4 (by omega))))
    refine bodyPost_ret (res_ccx Tryd.results37 (by rfl) (by rfl) X4 Y4 Tryd.underlying29 rfl sizeKey (show (2 : Nat) = 2 from rfl) (show (2 : Nat) = 2 from rfl) (by rfl)) rfl ?_
    exact ⟨by rw [hE.out]; rfl, ((b1.trans (b2.mono (by omega))).trans (g3.below (by omega) (by omega))).trans (g4.below (by omega) (by omega))⟩
theorem rget_fB (A : Option Addr) (n c hi : Nat) (l : List Int) (o s : Nat) (oi si : Int) (w : World) (hn : l.length = n) (h : Bs w 0 hi A l) (hm : n ≤ c) (hc : c ≤ 9223372036854775807) (hs : 1 ≤ s ∧ s ≤ 8) (ho : o + s ≤ n) (hn2 : n ≤ 1000000) (hoi : ((o : Nat) : Int) = oi) (hsi : ((s : Nat) : Int) = si) :
    Calls Tryd.prog 67 #[.slice A n c, .int .i64 oi, .int .i64 si] w fun e w' => e = .returned (.tuple #[.int .u64 (fB l o s), .int .i64 0]) ∧ w = w' := by
  subst hoi hsi
  have h1 := rget_any A n c 0 hi l o s w hn h hm hc (by omega)
  unfold getR at h1
  rw [getE_0 (by omega) (by omega)] at h1
  exact h1
open Go.RowKit
set_option maxHeartbeats 16000000 in
theorem ropen_52 (bj : Nat) (s k' g : Int) (A : Option Addr) (c : Nat) (l : List Int) (w : World) (hn : l.length = 52) (h : Bs w 0 w.heap.size A l) (hc : 52 ≤ c) (hcc : c ≤ 9223372036854775807) (hs : U64 s) (hg : Gn g) (hk : 1 ≤ k' ∧ k' ≤ 8) (hJ : Blk w bj 89 (jarL s k' g)) :
    Calls Tryd.prog 37 #[.pointer (some ⟨bj, 0, none⟩), .slice A 52 c] w fun e w' => e = .returned (opV s k' g l) ∧ Below w.heap.size w w' := by
  have hbj := hJ.lt
  have HN := Lib.hid hn
  have T0 := fB_rng h.byt 0 4
  rw [p4] at T0
  obtain ⟨T, hT⟩ : ∃ T, fB l 0 4 = T := ⟨_, rfl⟩
  obtain ⟨N, hNn⟩ : ∃ N, fB l 4 8 = N := ⟨_, rfl⟩
  obtain ⟨x0, hx0⟩ : ∃ x, fB l 12 8 = x := ⟨_, rfl⟩
  obtain ⟨x1, hx1⟩ : ∃ x, fB l 20 8 = x := ⟨_, rfl⟩
  obtain ⟨x2, hx2⟩ : ∃ x, fB l 28 8 = x := ⟨_, rfl⟩
  obtain ⟨x3, hx3⟩ : ∃ x, fB l 36 8 = x := ⟨_, rfl⟩
  obtain ⟨G, hG⟩ : ∃ G, fB l 44 8 = G := ⟨_, rfl⟩
  rw [hT] at T0
  have e1 : IntKind.i64.wrap T = T := by rw [IntKind.wrap_i64]; omega
  have HT := Lib.hid hT
  have HNn := Lib.hid hNn
  have HX0 := Lib.hid hx0
  have HX1 := Lib.hid hx1
  have HX2 := Lib.hid hx2
  have HX3 := Lib.hid hx3
  have HG := Lib.hid hG
  clear hT hNn hx0 hx1 hx2 hx3 hn hG
  have hwr : IntKind.i64.wrap (g - k') = g - k' := by obtain ⟨h0, h1⟩ := hg; rw [IntKind.wrap_i64]; omega
  go_enter Tryd.func37, Tryd.ntmps37
  go_wp2_with (first
    | (((with_reducible show wpList _ _ _ (⟨some 4, _, _, _, _, _⟩ :: _) _ _); refine wpl_alloc (by rfl) 29 (by rfl) (keyV 0 0) (keyL 0 0) zeroKey rfl ?_; intro w1 X1 s1 b1); (have J1 := hJ.below b1 hbj))
    | (((with_reducible show wpList _ _ _ (⟨some 5, _, _, _, _, _⟩ :: _) _ _); refine wpl_alloc (by rfl) 29 (by rfl) (keyV 0 0) (keyL 0 0) zeroKey rfl ?_; intro w2 Y2 s2 b2); (have X2 := X1.below b2 (by omega)); (have J2 := J1.below b2 (by omega))))
  have h2 := (h.below b1 (Nat.le_refl _)).below b2 (by omega)
  have B2 := b1.trans (b2.mono (by omega))
  have z2 := B2.size
  have q1 := J2.cell (i := 1) (v := .int .i64 k') rfl
  have q2 := J2.cell (i := 2) (v := .int .i64 g) rfl
  have hE := rget_fB A 52 c _ l 0 4 0 4 w2 HN.out h2 hc hcc (by omega) (by omega) (by omega) rfl rfl
  rw [HT.out] at hE
  with_reducible refine hE.mono ?_
  rintro e _ ⟨rfl, rfl⟩
  clear hE X1 J1 hJ b1 b2
  go_wp2_with fail
  by_cases hA : T < 1
  · have dA : decide (T < 1) = true := decide_eq_true hA
    have HE : Hid (opV s k' g l = .tuple #[keyV 0 0, keyV 0 0, .int .i64 17]) := opV_err (by unfold opE staleB; rw [HT.out, if_neg (by rw [HN.out]; omega), if_neg (by rw [HN.out]; omega), if_pos (by rw [dA]; rfl)]) (by decide)
    clear hA
    refine wp_region_det (fun y => y = w2.drew) 23 (by kernel_rfl) rfl (by rfl) ?_
    simp only [List.replicate]
    (refine wpD_t 0 _ (by exact gE rfl) (by kernel_rfl) (by rfl) (YS.of_value (by intro _ h; (try dsimp only at h); go_simp; first | done | with_reducible rfl)) ?_; (try simp only [Act.put, zs0, zs1, zs2]))
    (refine wpD_t 1 _ (by exact gE rfl) (by kernel_rfl) (by rfl) (YS.of_value (by intro _ h; (try dsimp only at h); go_simp; first | done | with_reducible rfl)) ?_; (try simp only [Act.put, zs0, zs1, zs2]))
    (refine wpD_t 2 _ (by exact gE rfl) (by kernel_rfl) (by rfl) (YS.of_value (by intro _ h; (try dsimp only at h); go_simp; first | done | with_reducible rfl)) ?_; (try simp only [Act.put, zs0, zs1, zs2]))
    (refine wpD_skip (i := 3) (by exact gE rfl) (by kernel_rfl) (by kernel_rfl) (by kernel_rfl) (by rfl) ?_; (try simp only [Act.put, zs0, zs1, zs2]))
    (refine wpD_skip (i := 4) (by exact gE rfl) (by kernel_rfl) (by kernel_rfl) (by kernel_rfl) (by rfl) ?_; (try simp only [Act.put, zs0, zs1, zs2]))
    (refine wpD_skip (i := 5) (by exact gE rfl) (by kernel_rfl) (by kernel_rfl) (by kernel_rfl) (by rfl) ?_; (try simp only [Act.put, zs0, zs1, zs2]))
    (refine wpD_skip (i := 6) (by exact gE rfl) (by kernel_rfl) (by kernel_rfl) (by kernel_rfl) (by rfl) ?_; (try simp only [Act.put, zs0, zs1, zs2]))
    (refine wpD_skip (i := 7) (by exact gE rfl) (by kernel_rfl) (by kernel_rfl) (by kernel_rfl) (by rfl) ?_; (try simp only [Act.put, zs0, zs1, zs2]))
    (refine wpD_skip (i := 8) (by exact gE rfl) (by kernel_rfl) (by kernel_rfl) (by kernel_rfl) (by rfl) ?_; (try simp only [Act.put, zs0, zs1, zs2]))
    (refine wpD_t 9 _ (by exact gE rfl) (by kernel_rfl) (by rfl) (YS.of_value (by intro _ h; (try dsimp only at h); go_simp; first | done | with_reducible rfl)) ?_; (try simp only [Act.put, zs0, zs1, zs2]))
    (refine wpD_t 10 _ (by exact gE rfl) (by kernel_rfl) (by rfl) (YS.of_value (by intro _ h; (try dsimp only at h); go_simp; first | done | with_reducible rfl)) ?_; (try simp only [Act.put, zs0, zs1, zs2]))
    (refine wpD_skip (i := 11) (by exact gE rfl) (by kernel_rfl) (by kernel_rfl) (by kernel_rfl) (by rfl) ?_; (try simp only [Act.put, zs0, zs1, zs2]))
    (refine wpD_skip (i := 12) (by exact gE rfl) (by kernel_rfl) (by kernel_rfl) (by kernel_rfl) (by rfl) ?_; (try simp only [Act.put, zs0, zs1, zs2]))
    (refine wpD_skip (i := 13) (by exact gE rfl) (by kernel_rfl) (by kernel_rfl) (by kernel_rfl) (by rfl) ?_; (try simp only [Act.put, zs0, zs1, zs2]))
    (refine wpD_skip (i := 14) (by exact gE rfl) (by kernel_rfl) (by kernel_rfl) (by kernel_rfl) (by rfl) ?_; (try simp only [Act.put, zs0, zs1, zs2]))
    (refine wpD_skip (i := 15) (by exact gE rfl) (by kernel_rfl) (by kernel_rfl) (by kernel_rfl) (by rfl) ?_; (try simp only [Act.put, zs0, zs1, zs2]))
    (refine wpD_skip (i := 16) (by exact gE rfl) (by kernel_rfl) (by kernel_rfl) (by kernel_rfl) (by rfl) ?_; (try simp only [Act.put, zs0, zs1, zs2]))
    (refine wpD_skip (i := 17) (by exact gE rfl) (by kernel_rfl) (by kernel_rfl) (by kernel_rfl) (by rfl) ?_; (try simp only [Act.put, zs0, zs1, zs2]))
    (refine wpD_skip (i := 18) (by exact gE rfl) (by kernel_rfl) (by kernel_rfl) (by kernel_rfl) (by rfl) ?_; (try simp only [Act.put, zs0, zs1, zs2]))
    (refine wpD_skip (i := 19) (by exact gE rfl) (by kernel_rfl) (by kernel_rfl) (by kernel_rfl) (by rfl) ?_; (try simp only [Act.put, zs0, zs1, zs2]))
    (refine wpD_skip (i := 20) (by exact gE rfl) (by kernel_rfl) (by kernel_rfl) (by kernel_rfl) (by rfl) ?_; (try simp only [Act.put, zs0, zs1, zs2]))
    (refine wpD_skip (i := 21) (by exact gE rfl) (by kernel_rfl) (by kernel_rfl) (by kernel_rfl) (by rfl) ?_; (try simp only [Act.put, zs0, zs1, zs2]))
    (refine wpD_t 22 _ (by exact gE rfl) (by kernel_rfl) (by rfl) (YS.of_value (by intro _ h; (try dsimp only at h); go_simp; first | done | with_reducible rfl)) ?_; (try simp only [Act.put, zs0, zs1, zs2]))
    refine wpD_done (by kernel_rfl) ?_ _
    rintro _ rfl
    have XZ := X2.drew
    have YZ := Y2.drew
    have BZ := B2.drew
    have zZ := BZ.size
    have lx := XZ.lt
    have ly := YZ.lt
    go_wp2_with (first
      | ((refine wpl_store (by rfl) 29 _ _ (by rfl) w.heap.size (by rfl) _ (by rfl) (keyL 0 0) rfl 29 _ XZ (show (2 : Nat) = 2 from rfl) _ sizeKey (by rfl) (by simp [Value.oneCell']) ?_; intro w8 X8 s8 g8); (have Y8 := YZ.but g8 (by omega)))
      | ((refine wpl_store (by rfl) 29 _ _ (by rfl) w1.heap.size (by rfl) _ (by rfl) (keyL 0 0) rfl 29 _ Y8 (show (2 : Nat) = 2 from rfl) _ sizeKey (by rfl) (by simp [Value.oneCell']) ?_; intro w9 Y9 s9 g9); (have X9 := X8.but g9 (by omega))))
    refine bodyPost_ret (res_ccx Tryd.results37 (by rfl) (by rfl) X9 Y9 Tryd.underlying29 rfl sizeKey (show (2 : Nat) = 2 from rfl) (show (2 : Nat) = 2 from rfl) (by rfl)) rfl ?_
    exact ⟨by rw [HE.out]; rfl, (BZ.trans (g8.below zZ (Nat.le_refl _))).trans (g9.below (by omega) (by omega))⟩
  have dA : decide (T < 1) = false := decide_eq_false hA
  by_cases hBB : g < T
  · have dB : decide (g < T) = true := decide_eq_true hBB
    have HE : Hid (opV s k' g l = .tuple #[keyV 0 0, keyV 0 0, .int .i64 17]) := opV_err (by unfold opE staleB; rw [HT.out, if_neg (by rw [HN.out]; omega), if_neg (by rw [HN.out]; omega), if_pos (by rw [dA, dB]; rfl)]) (by decide)
    clear hA hBB
    refine wp_region_det (fun y => y = w2.drew) 23 (by kernel_rfl) rfl (by rfl) ?_
    simp only [List.replicate]
    (refine wpD_t 0 _ (by exact gE rfl) (by kernel_rfl) (by rfl) (YS.of_value (by intro _ h; (try dsimp only at h); go_simp; first | done | with_reducible rfl)) ?_; (try simp only [Act.put, zs0, zs1, zs2]))
    (refine wpD_t 1 _ (by exact gE rfl) (by kernel_rfl) (by rfl) (YS.of_value (by intro _ h; (try dsimp only at h); go_simp; first | done | with_reducible rfl)) ?_; (try simp only [Act.put, zs0, zs1, zs2]))
    (refine wpD_t 2 _ (by exact gE rfl) (by kernel_rfl) (by rfl) (YS.of_value (by intro _ h; (try dsimp only at h); go_simp; first | done | with_reducible rfl)) ?_; (try simp only [Act.put, zs0, zs1, zs2]))
    (refine wpD_t 3 _ (by exact gE rfl) (by kernel_rfl) (by rfl) (YS.of_value (by intro _ h; (try dsimp only at h); go_simp; first | done | with_reducible rfl)) ?_; (try simp only [Act.put, zs0, zs1, zs2]))
    (refine wpD_t 4 _ (by exact gE rfl) (by kernel_rfl) (by rfl) (YS.of_value (by intro _ h; (try dsimp only at h); go_simp; first | done | with_reducible rfl)) ?_; (try simp only [Act.put, zs0, zs1, zs2]))
    (refine wpD_t 5 _ (by exact gE rfl) (by kernel_rfl) (by rfl) (YS.of_value (by intro _ h; (try dsimp only at h); go_simp; first | done | with_reducible rfl)) ?_; (try simp only [Act.put, zs0, zs1, zs2]))
    (refine wpD_t 6 _ (by exact gE rfl) (by kernel_rfl) (by rfl) (YS.of_value (by intro _ h; (try dsimp only at h); go_simp; first | done | with_reducible rfl)) ?_; (try simp only [Act.put, zs0, zs1, zs2]))
    (refine wpD_t 7 _ (by exact gE rfl) (by kernel_rfl) (by rfl) (YS.of_value (by intro _ h; (try dsimp only at h); go_simp; first | done | with_reducible rfl)) ?_; (try simp only [Act.put, zs0, zs1, zs2]))
    (refine wpD_t 8 _ (by exact gE rfl) (by kernel_rfl) (by rfl) (YS.of_value (by intro _ h; (try dsimp only at h); go_simp; first | done | with_reducible rfl)) ?_; (try simp only [Act.put, zs0, zs1, zs2]))
    (refine wpD_t 9 _ (by exact gE rfl) (by kernel_rfl) (by rfl) (YS.of_value (by intro _ h; (try dsimp only at h); go_simp; first | done | with_reducible rfl)) ?_; (try simp only [Act.put, zs0, zs1, zs2]))
    (refine wpD_t 10 _ (by exact gE rfl) (by kernel_rfl) (by rfl) (YS.of_value (by intro _ h; (try dsimp only at h); go_simp; first | done | with_reducible rfl)) ?_; (try simp only [Act.put, zs0, zs1, zs2]))
    (refine wpD_skip (i := 11) (by exact gE rfl) (by kernel_rfl) (by kernel_rfl) (by kernel_rfl) (by rfl) ?_; (try simp only [Act.put, zs0, zs1, zs2]))
    (refine wpD_skip (i := 12) (by exact gE rfl) (by kernel_rfl) (by kernel_rfl) (by kernel_rfl) (by rfl) ?_; (try simp only [Act.put, zs0, zs1, zs2]))
    (refine wpD_skip (i := 13) (by exact gE rfl) (by kernel_rfl) (by kernel_rfl) (by kernel_rfl) (by rfl) ?_; (try simp only [Act.put, zs0, zs1, zs2]))
    (refine wpD_skip (i := 14) (by exact gE rfl) (by kernel_rfl) (by kernel_rfl) (by kernel_rfl) (by rfl) ?_; (try simp only [Act.put, zs0, zs1, zs2]))
    (refine wpD_skip (i := 15) (by exact gE rfl) (by kernel_rfl) (by kernel_rfl) (by kernel_rfl) (by rfl) ?_; (try simp only [Act.put, zs0, zs1, zs2]))
    (refine wpD_skip (i := 16) (by exact gE rfl) (by kernel_rfl) (by kernel_rfl) (by kernel_rfl) (by rfl) ?_; (try simp only [Act.put, zs0, zs1, zs2]))
    (refine wpD_skip (i := 17) (by exact gE rfl) (by kernel_rfl) (by kernel_rfl) (by kernel_rfl) (by rfl) ?_; (try simp only [Act.put, zs0, zs1, zs2]))
    (refine wpD_skip (i := 18) (by exact gE rfl) (by kernel_rfl) (by kernel_rfl) (by kernel_rfl) (by rfl) ?_; (try simp only [Act.put, zs0, zs1, zs2]))
    (refine wpD_skip (i := 19) (by exact gE rfl) (by kernel_rfl) (by kernel_rfl) (by kernel_rfl) (by rfl) ?_; (try simp only [Act.put, zs0, zs1, zs2]))
    (refine wpD_skip (i := 20) (by exact gE rfl) (by kernel_rfl) (by kernel_rfl) (by kernel_rfl) (by rfl) ?_; (try simp only [Act.put, zs0, zs1, zs2]))
    (refine wpD_skip (i := 21) (by exact gE rfl) (by kernel_rfl) (by kernel_rfl) (by kernel_rfl) (by rfl) ?_; (try simp only [Act.put, zs0, zs1, zs2]))
    (refine wpD_t 22 _ (by exact gE rfl) (by kernel_rfl) (by rfl) (YS.of_value (by intro _ h; (try dsimp only at h); go_simp; first | done | with_reducible rfl)) ?_; (try simp only [Act.put, zs0, zs1, zs2]))
    refine wpD_done (by kernel_rfl) ?_ _
    rintro _ rfl
    have XZ := X2.drew
    have YZ := Y2.drew
    have BZ := B2.drew
    have zZ := BZ.size
    have lx := XZ.lt
    have ly := YZ.lt
    go_wp2_with (first
      | ((refine wpl_store (by rfl) 29 _ _ (by rfl) w.heap.size (by rfl) _ (by rfl) (keyL 0 0) rfl 29 _ XZ (show (2 : Nat) = 2 from rfl) _ sizeKey (by rfl) (by simp [Value.oneCell']) ?_; intro w8 X8 s8 g8); (have Y8 := YZ.but g8 (by omega)))
      | ((refine wpl_store (by rfl) 29 _ _ (by rfl) w1.heap.size (by rfl) _ (by rfl) (keyL 0 0) rfl 29 _ Y8 (show (2 : Nat) = 2 from rfl) _ sizeKey (by rfl) (by simp [Value.oneCell']) ?_; intro w9 Y9 s9 g9); (have X9 := X8.but g9 (by omega))))
    refine bodyPost_ret (res_ccx Tryd.results37 (by rfl) (by rfl) X9 Y9 Tryd.underlying29 rfl sizeKey (show (2 : Nat) = 2 from rfl) (show (2 : Nat) = 2 from rfl) (by rfl)) rfl ?_
    exact ⟨by rw [HE.out]; rfl, (BZ.trans (g8.below zZ (Nat.le_refl _))).trans (g9.below (by omega) (by omega))⟩
  have dB : decide (g < T) = false := decide_eq_false hBB
  by_cases hC : T ≤ g - k'
  · have dC : decide (T ≤ g - k') = true := decide_eq_true hC
    have HE : Hid (opV s k' g l = .tuple #[keyV 0 0, keyV 0 0, .int .i64 17]) := opV_err (by unfold opE staleB; rw [HT.out, if_neg (by rw [HN.out]; omega), if_neg (by rw [HN.out]; omega), if_pos (by rw [dA, dB, dC]; rfl)]) (by decide)
    clear hA hBB hC
    refine wp_region_det (fun y => y = w2.drew) 23 (by kernel_rfl) rfl (by rfl) ?_
    simp only [List.replicate]
    (refine wpD_t 0 _ (by exact gE rfl) (by kernel_rfl) (by rfl) (YS.of_value (by intro _ h; (try dsimp only at h); go_simp; first | done | with_reducible rfl)) ?_; (try simp only [Act.put, zs0, zs1, zs2]))
    (refine wpD_t 1 _ (by exact gE rfl) (by kernel_rfl) (by rfl) (YS.of_value (by intro _ h; (try dsimp only at h); go_simp; first | done | with_reducible rfl)) ?_; (try simp only [Act.put, zs0, zs1, zs2]))
    (refine wpD_t 2 _ (by exact gE rfl) (by kernel_rfl) (by rfl) (YS.of_value (by intro _ h; (try dsimp only at h); go_simp; first | done | with_reducible rfl)) ?_; (try simp only [Act.put, zs0, zs1, zs2]))
    (refine wpD_t 3 _ (by exact gE rfl) (by kernel_rfl) (by rfl) (YS.of_value (by intro _ h; (try dsimp only at h); go_simp; first | done | with_reducible rfl)) ?_; (try simp only [Act.put, zs0, zs1, zs2]))
    (refine wpD_t 4 _ (by exact gE rfl) (by kernel_rfl) (by rfl) (YS.of_value (by intro _ h; (try dsimp only at h); go_simp; first | done | with_reducible rfl)) ?_; (try simp only [Act.put, zs0, zs1, zs2]))
    (refine wpD_t 5 _ (by exact gE rfl) (by kernel_rfl) (by rfl) (YS.of_value (by intro _ h; (try dsimp only at h); go_simp; first | done | with_reducible rfl)) ?_; (try simp only [Act.put, zs0, zs1, zs2]))
    (refine wpD_t 6 _ (by exact gE rfl) (by kernel_rfl) (by rfl) (YS.of_value (by intro _ h; (try dsimp only at h); go_simp; first | done | with_reducible rfl)) ?_; (try simp only [Act.put, zs0, zs1, zs2]))
    (refine wpD_t 7 _ (by exact gE rfl) (by kernel_rfl) (by rfl) (YS.of_value (by intro _ h; (try dsimp only at h); go_simp; first | done | with_reducible rfl)) ?_; (try simp only [Act.put, zs0, zs1, zs2]))
    (refine wpD_t 8 _ (by exact gE rfl) (by kernel_rfl) (by rfl) (YS.of_value (by intro _ h; (try dsimp only at h); go_simp; first | done | with_reducible rfl)) ?_; (try simp only [Act.put, zs0, zs1, zs2]))
    (refine wpD_t 9 _ (by exact gE rfl) (by kernel_rfl) (by rfl) (YS.of_value (by intro _ h; (try dsimp only at h); go_simp; first | done | with_reducible rfl)) ?_; (try simp only [Act.put, zs0, zs1, zs2]))
    (refine wpD_t 10 _ (by exact gE rfl) (by kernel_rfl) (by rfl) (YS.of_value (by intro _ h; (try dsimp only at h); go_simp; first | done | with_reducible rfl)) ?_; (try simp only [Act.put, zs0, zs1, zs2]))
    (refine wpD_t 11 _ (by exact gE rfl) (by kernel_rfl) (by rfl) (YS.of_value (by intro _ h; (try dsimp only at h); go_simp; first | done | with_reducible rfl)) ?_; (try simp only [Act.put, zs0, zs1, zs2]))
    (refine wpD_t 12 _ (by exact gE rfl) (by kernel_rfl) (by rfl) (YS.of_value (by intro _ h; (try dsimp only at h); go_simp; first | done | with_reducible rfl)) ?_; (try simp only [Act.put, zs0, zs1, zs2]))
    (refine wpD_t 13 _ (by exact gE rfl) (by kernel_rfl) (by rfl) (YS.of_value (by intro _ h; (try dsimp only at h); go_simp; first | done | with_reducible rfl)) ?_; (try simp only [Act.put, zs0, zs1, zs2]))
    (refine wpD_t 14 _ (by exact gE rfl) (by kernel_rfl) (by rfl) (YS.of_value (by intro _ h; (try dsimp only at h); go_simp; first | done | with_reducible rfl)) ?_; (try simp only [Act.put, zs0, zs1, zs2]))
    (refine wpD_t 15 _ (by exact gE rfl) (by kernel_rfl) (by rfl) (YS.of_value (by intro _ h; (try dsimp only at h); go_simp; first | done | with_reducible rfl)) ?_; (try simp only [Act.put, zs0, zs1, zs2]))
    (refine wpD_t 16 _ (by exact gE rfl) (by kernel_rfl) (by rfl) (YS.of_value (by intro _ h; (try dsimp only at h); go_simp; first | done | with_reducible rfl)) ?_; (try simp only [Act.put, zs0, zs1, zs2]))
    (refine wpD_t 17 _ (by exact gE rfl) (by kernel_rfl) (by rfl) (YS.of_value (by intro _ h; (try dsimp only at h); go_simp; first | done | with_reducible rfl)) ?_; (try simp only [Act.put, zs0, zs1, zs2]))
    (refine wpD_t 18 _ (by exact gE rfl) (by kernel_rfl) (by rfl) (YS.of_value (by intro _ h; (try dsimp only at h); go_simp; first | done | with_reducible rfl)) ?_; (try simp only [Act.put, zs0, zs1, zs2]))
    (refine wpD_t 19 _ (by exact gE rfl) (by kernel_rfl) (by rfl) (YS.of_value (by intro _ h; (try dsimp only at h); go_simp; first | done | with_reducible rfl)) ?_; (try simp only [Act.put, zs0, zs1, zs2]))
    (refine wpD_t 20 _ (by exact gE rfl) (by kernel_rfl) (by rfl) (YS.of_value (by intro _ h; (try dsimp only at h); go_simp; first | done | with_reducible rfl)) ?_; (try simp only [Act.put, zs0, zs1, zs2]))
    (refine wpD_t 21 _ (by exact gE rfl) (by kernel_rfl) (by rfl) (YS.of_value (by intro _ h; (try dsimp only at h); go_simp; first | done | with_reducible rfl)) ?_; (try simp only [Act.put, zs0, zs1, zs2]))
    (refine wpD_t 22 _ (by exact gE rfl) (by kernel_rfl) (by rfl) (YS.of_value (by intro _ h; (try dsimp only at h); go_simp; first | done | with_reducible rfl)) ?_; (try simp only [Act.put, zs0, zs1, zs2]))
    refine wpD_done (by kernel_rfl) ?_ _
    rintro _ rfl
    have XZ := X2.drew
    have YZ := Y2.drew
    have BZ := B2.drew
    have zZ := BZ.size
    have lx := XZ.lt
    have ly := YZ.lt
    go_wp2_with (first
      | ((refine wpl_store (by rfl) 29 _ _ (by rfl) w.heap.size (by rfl) _ (by rfl) (keyL 0 0) rfl 29 _ XZ (show (2 : Nat) = 2 from rfl) _ sizeKey (by rfl) (by simp [Value.oneCell']) ?_; intro w8 X8 s8 g8); (have Y8 := YZ.but g8 (by omega)))
      | ((refine wpl_store (by rfl) 29 _ _ (by rfl) w1.heap.size (by rfl) _ (by rfl) (keyL 0 0) rfl 29 _ Y8 (show (2 : Nat) = 2 from rfl) _ sizeKey (by rfl) (by simp [Value.oneCell']) ?_; intro w9 Y9 s9 g9); (have X9 := X8.but g9 (by omega))))
    refine bodyPost_ret (res_ccx Tryd.results37 (by rfl) (by rfl) X9 Y9 Tryd.underlying29 rfl sizeKey (show (2 : Nat) = 2 from rfl) (show (2 : Nat) = 2 from rfl) (by rfl)) rfl ?_
    exact ⟨by rw [HE.out]; rfl, (BZ.trans (g8.below zZ (Nat.le_refl _))).trans (g9.below (by omega) (by omega))⟩
  have dC : decide (T ≤ g - k') = false := decide_eq_false hC
  have hgT : Gn T := by obtain ⟨h0, h1⟩ := hg; exact ⟨by omega, by omega⟩
  clear hA hBB hC
  refine wp_region_det (fun y => y = w2.drew) 23 (by kernel_rfl) rfl (by rfl) ?_
  simp only [List.replicate]
  (refine wpD_t 0 _ (by exact gE rfl) (by kernel_rfl) (by rfl) (YS.of_value (by intro _ h; (try dsimp only at h); go_simp; first | done | with_reducible rfl)) ?_; (try simp only [Act.put, zs0, zs1, zs2]))
  (refine wpD_t 1 _ (by exact gE rfl) (by kernel_rfl) (by rfl) (YS.of_value (by intro _ h; (try dsimp only at h); go_simp; first | done | with_reducible rfl)) ?_; (try simp only [Act.put, zs0, zs1, zs2]))
  (refine wpD_t 2 _ (by exact gE rfl) (by kernel_rfl) (by rfl) (YS.of_value (by intro _ h; (try dsimp only at h); go_simp; first | done | with_reducible rfl)) ?_; (try simp only [Act.put, zs0, zs1, zs2]))
  (refine wpD_t 3 _ (by exact gE rfl) (by kernel_rfl) (by rfl) (YS.of_value (by intro _ h; (try dsimp only at h); go_simp; first | done | with_reducible rfl)) ?_; (try simp only [Act.put, zs0, zs1, zs2]))
  (refine wpD_t 4 _ (by exact gE rfl) (by kernel_rfl) (by rfl) (YS.of_value (by intro _ h; (try dsimp only at h); go_simp; first | done | with_reducible rfl)) ?_; (try simp only [Act.put, zs0, zs1, zs2]))
  (refine wpD_t 5 _ (by exact gE rfl) (by kernel_rfl) (by rfl) (YS.of_value (by intro _ h; (try dsimp only at h); go_simp; first | done | with_reducible rfl)) ?_; (try simp only [Act.put, zs0, zs1, zs2]))
  (refine wpD_t 6 _ (by exact gE rfl) (by kernel_rfl) (by rfl) (YS.of_value (by intro _ h; (try dsimp only at h); go_simp; first | done | with_reducible rfl)) ?_; (try simp only [Act.put, zs0, zs1, zs2]))
  (refine wpD_t 7 _ (by exact gE rfl) (by kernel_rfl) (by rfl) (YS.of_value (by intro _ h; (try dsimp only at h); go_simp; first | done | with_reducible rfl)) ?_; (try simp only [Act.put, zs0, zs1, zs2]))
  (refine wpD_t 8 _ (by exact gE rfl) (by kernel_rfl) (by rfl) (YS.of_value (by intro _ h; (try dsimp only at h); go_simp; first | done | with_reducible rfl)) ?_; (try simp only [Act.put, zs0, zs1, zs2]))
  (refine wpD_t 9 _ (by exact gE rfl) (by kernel_rfl) (by rfl) (YS.of_value (by intro _ h; (try dsimp only at h); go_simp; first | done | with_reducible rfl)) ?_; (try simp only [Act.put, zs0, zs1, zs2]))
  (refine wpD_t 10 _ (by exact gE rfl) (by kernel_rfl) (by rfl) (YS.of_value (by intro _ h; (try dsimp only at h); go_simp; first | done | with_reducible rfl)) ?_; (try simp only [Act.put, zs0, zs1, zs2]))
  (refine wpD_t 11 _ (by exact gE rfl) (by kernel_rfl) (by rfl) (YS.of_value (by intro _ h; (try dsimp only at h); go_simp; first | done | with_reducible rfl)) ?_; (try simp only [Act.put, zs0, zs1, zs2]))
  (refine wpD_t 12 _ (by exact gE rfl) (by kernel_rfl) (by rfl) (YS.of_value (by intro _ h; (try dsimp only at h); go_simp; first | done | with_reducible rfl)) ?_; (try simp only [Act.put, zs0, zs1, zs2]))
  (refine wpD_t 13 _ (by exact gE rfl) (by kernel_rfl) (by rfl) (YS.of_value (by intro _ h; (try dsimp only at h); go_simp; first | done | with_reducible rfl)) ?_; (try simp only [Act.put, zs0, zs1, zs2]))
  (refine wpD_t 14 _ (by exact gE rfl) (by kernel_rfl) (by rfl) (YS.of_value (by intro _ h; (try dsimp only at h); go_simp; first | done | with_reducible rfl)) ?_; (try simp only [Act.put, zs0, zs1, zs2]))
  (refine wpD_t 15 _ (by exact gE rfl) (by kernel_rfl) (by rfl) (YS.of_value (by intro _ h; (try dsimp only at h); go_simp; first | done | with_reducible rfl)) ?_; (try simp only [Act.put, zs0, zs1, zs2]))
  (refine wpD_t 16 _ (by exact gE rfl) (by kernel_rfl) (by rfl) (YS.of_value (by intro _ h; (try dsimp only at h); go_simp; first | done | with_reducible rfl)) ?_; (try simp only [Act.put, zs0, zs1, zs2]))
  (refine wpD_t 17 _ (by exact gE rfl) (by kernel_rfl) (by rfl) (YS.of_value (by intro _ h; (try dsimp only at h); go_simp; first | done | with_reducible rfl)) ?_; (try simp only [Act.put, zs0, zs1, zs2]))
  (refine wpD_t 18 _ (by exact gE rfl) (by kernel_rfl) (by rfl) (YS.of_value (by intro _ h; (try dsimp only at h); go_simp; first | done | with_reducible rfl)) ?_; (try simp only [Act.put, zs0, zs1, zs2]))
  (refine wpD_t 19 _ (by exact gE rfl) (by kernel_rfl) (by rfl) (YS.of_value (by intro _ h; (try dsimp only at h); go_simp; first | done | with_reducible rfl)) ?_; (try simp only [Act.put, zs0, zs1, zs2]))
  (refine wpD_t 20 _ (by exact gE rfl) (by kernel_rfl) (by rfl) (YS.of_value (by intro _ h; (try dsimp only at h); go_simp; first | done | with_reducible rfl)) ?_; (try simp only [Act.put, zs0, zs1, zs2]))
  (refine wpD_t 21 _ (by exact gE rfl) (by kernel_rfl) (by rfl) (YS.of_value (by intro _ h; (try dsimp only at h); go_simp; first | done | with_reducible rfl)) ?_; (try simp only [Act.put, zs0, zs1, zs2]))
  (refine wpD_t 22 _ (by exact gE rfl) (by kernel_rfl) (by rfl) (YS.of_value (by intro _ h; (try dsimp only at h); go_simp; first | done | with_reducible rfl)) ?_; (try simp only [Act.put, zs0, zs1, zs2]))
  refine wpD_done (by kernel_rfl) ?_ _
  rintro _ rfl
  obtain ⟨wx, hwx⟩ : ∃ wx, wx = w2.drew := ⟨_, rfl⟩
  have X3 : Blk wx w.heap.size 29 (keyL 0 0) := by rw [hwx]; exact X2.drew
  have Y3 : Blk wx w1.heap.size 29 (keyL 0 0) := by rw [hwx]; exact Y2.drew
  have J3 : Blk wx bj 89 (jarL s k' g) := by rw [hwx]; exact J2.drew
  have h3 : Bs wx 0 w.heap.size A l := by rw [hwx]; exact h2.drew
  have B3 : Below w.heap.size w wx := by rw [hwx]; exact B2.drew
  have zx : wx.heap.size = w2.heap.size := by rw [hwx]; rfl
  have s3 : w1.heap.size < wx.heap.size := by omega
  have hbx : bj < wx.heap.size := by omega
  rw [← hwx]
  clear hwx zx X2 Y2 J2 h2 B2 q1 q2 s2 z2
  have hE := rget_fB A 52 c _ l 44 8 44 8 wx HN.out h3 hc hcc (by omega) (by omega) (by omega) rfl rfl
  rw [HG.out] at hE
  go_wp2_with fail
  with_reducible refine hE.mono ?_
  rintro e _ ⟨rfl, rfl⟩
  have l44 : (l.take 44).length = 44 := by rw [List.length_take, HN.out]; omega
  have h44 := h3.take 44
  have c44 : (44 : Int) ≤ c := by omega
  obtain ⟨tg, htg⟩ : ∃ tg, jtag s T (l.take 44) = tg := ⟨_, rfl⟩
  have hTg := rjtag_any bj s k' T g A 44 c (l.take 44) wx hs hgT J3 l44 (h44.wide (Nat.le_refl _) B3.size) (by omega) (by omega) hcc
  rw [htg] at hTg
  have HTG := Lib.hid htg
  clear htg hE
  go_wp2_with fail
  with_reducible refine hTg.mono ?_
  rintro e w4 ⟨rfl, b4⟩
  have X4 := X3.below b4 X3.lt
  have Y4 := Y3.below b4 Y3.lt
  have J4 := J3.below b4 J3.lt
  have h4 := h3.below b4 B3.size
  have B4 := B3.trans (b4.mono B3.size)
  have z4 := b4.size
  clear hTg X3 Y3 J3 h3 h44 B3 b4
  by_cases hGt : G = tg
  · have dG : (G != tg) = false := by simpa using hGt
    have HE : Hid (opV s k' g l = .tuple #[keyV (xr x0 (padF s T N 0)) (xr x1 (padF s T N 1)), keyV (xr x2 (padF s T N 2)) (xr x3 (padF s T N 3)), .int .i64 0]) := by
      have h0 : opE s k' g l = 0 := by unfold opE staleB; rw [HT.out, HG.out, if_neg (by rw [HN.out]; omega), if_neg (by rw [HN.out]; omega), if_neg (by rw [dA, dB, dC]; decide), if_pos (by rw [HTG.out, hGt])]
      have h1 := opV_ok h0
      rw [HT.out, HNn.out, HX0.out, HX1.out, HX2.out, HX3.out] at h1
      exact h1
    have hN64 : U64 N := by rw [← HNn.out]; have := fB_rng h.byt 4 8; rw [p8] at this; exact ⟨this.1, by omega⟩
    have hP0 := fun W hJ => rpad_any bj s k' T g N 0 W hs hgT hN64 (by omega) hJ
    have hP1 := fun W hJ => rpad_any bj s k' T g N 1 W hs hgT hN64 (by omega) hJ
    have hP2 := fun W hJ => rpad_any bj s k' T g N 2 W hs hgT hN64 (by omega) hJ
    have hP3 := fun W hJ => rpad_any bj s k' T g N 3 W hs hgT hN64 (by omega) hJ
    generalize padF s T N 0 = p0 at hP0 HE
    generalize padF s T N 1 = p1 at hP1 HE
    generalize padF s T N 2 = p2 at hP2 HE
    generalize padF s T N 3 = p3 at hP3 HE
    have hx0 : bits .xor .u64 x0 p0 = xr x0 p0 := rfl
    have hx1 : bits .xor .u64 x1 p1 = xr x1 p1 := rfl
    have hx2 : bits .xor .u64 x2 p2 = xr x2 p2 := rfl
    have hx3 : bits .xor .u64 x3 p3 = xr x3 p3 := rfl
    generalize xr x0 p0 = y0 at hx0 HE
    generalize xr x1 p1 = y1 at hx1 HE
    generalize xr x2 p2 = y2 at hx2 HE
    generalize xr x3 p3 = y3 at hx3 HE
    have hE := rget_fB A 52 c _ l 4 8 4 8 w4 HN.out h4 hc hcc (by omega) (by omega) (by omega) rfl rfl
    rw [HNn.out] at hE
    clear hGt
    go_wp2_with fail
    with_reducible refine hE.mono ?_
    rintro e _ ⟨rfl, rfl⟩
    clear hE
    go_wp2_with (first
      | ((with_reducible show wpList _ _ _ (⟨some 14, _, _, _, _, _⟩ :: _) _ _); refine wpl_alloc (by rfl) 95 (by rfl) (fourV 0 0 0 0) (fourL 0 0 0 0) zero4 rfl ?_; intro w5 M5 s5 b5))
    have X5 := X4.below b5 X4.lt
    have Y5 := Y4.below b5 Y4.lt
    have J5 := J4.below b5 J4.lt
    have B5 := B4.trans (b5.mono B4.size)
    have hxm : w.heap.size ≠ w4.heap.size := by omega
    have hym : w1.heap.size ≠ w4.heap.size := by omega
    have hjm : bj ≠ w4.heap.size := by omega
    have hwm : w.heap.size ≤ w4.heap.size := by omega
    clear X4 Y4 J4 B4 b5 h4
    generalize w4.heap.size = mb at M5 hxm hym hjm hwm ⊢
    go_wp2_with fail
    go_loopw [15] (fun i wr => ∃ k : Nat, k ≤ 4 ∧ i = .int .i64 k ∧ Blk wr mb 95 (rdL y0 y1 y2 y3 k) ∧ Blk wr w.heap.size 29 (keyL 0 0) ∧ Blk wr w1.heap.size 29 (keyL 0 0) ∧ Blk wr bj 89 (jarL s k' g) ∧ Below w.heap.size w wr) (fun i _ => 4 - (intOf i).toNat)
    case atStart => exact ⟨0, by omega, rfl, M5, X5, Y5, J5, B5⟩
    case round =>
      obtain ⟨k, hk, rfl, hM, hX, hY, hJ, hB⟩ := hrel
      obtain ⟨wo, rfl⟩ : ∃ wo : World, wo = wr := ⟨wr, rfl⟩
      have hb := h.below hB (Nat.le_refl _)
      clear M5 X5 Y5 J5 B5
      have : k = 0 ∨ k = 1 ∨ k = 2 ∨ k = 3 ∨ k = 4 := by omega
      rcases this with rfl | rfl | rfl | rfl | rfl
      · skip
        have hE := rget_fB A 52 c _ l 12 8 12 8 wo HN.out hb hc hcc (by omega) (by omega) (by omega) rfl rfl
        rw [HX0.out] at hE
        go_wp2_with fail
        with_reducible refine hE.mono ?_
        rintro e _ ⟨rfl, rfl⟩
        have hE2 := hP0 wo hJ
        clear hE hb
        go_wp2_with (first
          | (go_at_call 51; ((with_reducible refine hE2.mono ?_); rintro e w6 ⟨rfl, b6⟩; (have M6 := hM.below b6 hM.lt)))
          | (refine wpl_storeg (by rfl) 22 _ _ (by rfl) mb 0 (by rfl) (.int .u64 y0) (by rfl) (by rfl) (by simp [Value.oneCell']) 95 _ (fourL y0 0 0 0) M6 (show 0 < 4 by omega) zeroU64'' (by rfl) ?_; intro w7 M7 s7 g7))
        have lx := hX.lt
        have ly := hY.lt
        have lj := hJ.lt
        have z6 := b6.size
        exact ⟨⟨1, by omega, rfl, M7, (hX.below b6 hX.lt).but g7 hxm, (hY.below b6 hY.lt).but g7 hym, (hJ.below b6 hJ.lt).but g7 hjm, (hB.trans (b6.mono hB.size)).trans (g7.below (Nat.le_trans hB.size z6) (by omega))⟩, by simp [intOf] <;> decide⟩
      · skip
        have hE := rget_fB A 52 c _ l 20 8 20 8 wo HN.out hb hc hcc (by omega) (by omega) (by omega) rfl rfl
        rw [HX1.out] at hE
        go_wp2_with fail
        with_reducible refine hE.mono ?_
        rintro e _ ⟨rfl, rfl⟩
        have hE2 := hP1 wo hJ
        clear hE hb
        go_wp2_with (first
          | (go_at_call 51; ((with_reducible refine hE2.mono ?_); rintro e w6 ⟨rfl, b6⟩; (have M6 := hM.below b6 hM.lt)))
          | (refine wpl_storeg (by rfl) 22 _ _ (by rfl) mb 1 (by rfl) (.int .u64 y1) (by rfl) (by rfl) (by simp [Value.oneCell']) 95 _ (fourL y0 y1 0 0) M6 (show 1 < 4 by omega) zeroU64'' (by rfl) ?_; intro w7 M7 s7 g7))
        have lx := hX.lt
        have ly := hY.lt
        have lj := hJ.lt
        have z6 := b6.size
        exact ⟨⟨2, by omega, rfl, M7, (hX.below b6 hX.lt).but g7 hxm, (hY.below b6 hY.lt).but g7 hym, (hJ.below b6 hJ.lt).but g7 hjm, (hB.trans (b6.mono hB.size)).trans (g7.below (Nat.le_trans hB.size z6) (by omega))⟩, by simp [intOf] <;> decide⟩
      · skip
        have hE := rget_fB A 52 c _ l 28 8 28 8 wo HN.out hb hc hcc (by omega) (by omega) (by omega) rfl rfl
        rw [HX2.out] at hE
        go_wp2_with fail
        with_reducible refine hE.mono ?_
        rintro e _ ⟨rfl, rfl⟩
        have hE2 := hP2 wo hJ
        clear hE hb
        go_wp2_with (first
          | (go_at_call 51; ((with_reducible refine hE2.mono ?_); rintro e w6 ⟨rfl, b6⟩; (have M6 := hM.below b6 hM.lt)))
          | (refine wpl_storeg (by rfl) 22 _ _ (by rfl) mb 2 (by rfl) (.int .u64 y2) (by rfl) (by rfl) (by simp [Value.oneCell']) 95 _ (fourL y0 y1 y2 0) M6 (show 2 < 4 by omega) zeroU64'' (by rfl) ?_; intro w7 M7 s7 g7))
        have lx := hX.lt
        have ly := hY.lt
        have lj := hJ.lt
        have z6 := b6.size
        exact ⟨⟨3, by omega, rfl, M7, (hX.below b6 hX.lt).but g7 hxm, (hY.below b6 hY.lt).but g7 hym, (hJ.below b6 hJ.lt).but g7 hjm, (hB.trans (b6.mono hB.size)).trans (g7.below (Nat.le_trans hB.size z6) (by omega))⟩, by simp [intOf] <;> decide⟩
      · skip
        have hE := rget_fB A 52 c _ l 36 8 36 8 wo HN.out hb hc hcc (by omega) (by omega) (by omega) rfl rfl
        rw [HX3.out] at hE
        go_wp2_with fail
        with_reducible refine hE.mono ?_
        rintro e _ ⟨rfl, rfl⟩
        have hE2 := hP3 wo hJ
        clear hE hb
        go_wp2_with (first
          | (go_at_call 51; ((with_reducible refine hE2.mono ?_); rintro e w6 ⟨rfl, b6⟩; (have M6 := hM.below b6 hM.lt)))
          | (refine wpl_storeg (by rfl) 22 _ _ (by rfl) mb 3 (by rfl) (.int .u64 y3) (by rfl) (by rfl) (by simp [Value.oneCell']) 95 _ (fourL y0 y1 y2 y3) M6 (show 3 < 4 by omega) zeroU64'' (by rfl) ?_; intro w7 M7 s7 g7))
        have lx := hX.lt
        have ly := hY.lt
        have lj := hJ.lt
        have z6 := b6.size
        exact ⟨⟨4, by omega, rfl, M7, (hX.below b6 hX.lt).but g7 hxm, (hY.below b6 hY.lt).but g7 hym, (hJ.below b6 hJ.lt).but g7 hjm, (hB.trans (b6.mono hB.size)).trans (g7.below (Nat.le_trans hB.size z6) (by omega))⟩, by simp [intOf] <;> decide⟩
      · have Ma : Blk wo mb 95 (fourL y0 y1 y2 y3) := hM
        have Xa := hX
        have Ya := hY
        have Ba := hB
        have lx8 := hX.lt
        have ly8 := hY.lt
        clear hM hX hY hB hb
        have q0 := Ma.drew.cell (i := 0) (v := .int .u64 y0) rfl
        have q1 := Ma.drew.cell (i := 1) (v := .int .u64 y1) rfl
        have q2 := Ma.drew.cell (i := 2) (v := .int .u64 y2) rfl
        have q3 := Ma.drew.cell (i := 3) (v := .int .u64 y3) rfl
        go_wp2_with fail
        refine wp_region_heldL (fun y => y.cell? ⟨mb, 0, none⟩ = some (.int .u64 y0) ∧ y.cell? ⟨mb, 1, none⟩ = some (.int .u64 y1) ∧ y.cell? ⟨mb, 2, none⟩ = some (.int .u64 y2) ∧ y.cell? ⟨mb, 3, none⟩ = some (.int .u64 y3)) 13 (by kernel_rfl) rfl ⟨q0, q1, q2, q3⟩ fun hHeld => ?_
        simp only [List.replicate]
        (refine wpH_t 0 _ (by exact gE rfl) (by kernel_rfl) (by intro _ _ _ h; exact h) (Or.inl ⟨by rfl, (by intro _ h; (try dsimp only at h); go_simp; first | done | with_reducible rfl)⟩) (by assumption) ?_; (try simp only [Act.put, zs0, zs1, zs2]))
        (refine wpH_t 1 _ (by exact gE rfl) (by kernel_rfl) (by intro _ _ _ h; exact h) (Or.inl ⟨by rfl, (by intro _ h; (try dsimp only at h); go_simp; first | done | with_reducible rfl)⟩) (by assumption) ?_; (try simp only [Act.put, zs0, zs1, zs2]))
        (refine wpH_t 2 _ (by exact gE rfl) (by kernel_rfl) (by intro _ _ _ h; exact h) (Or.inl ⟨by rfl, (by intro _ h; (try dsimp only at h); go_simp; first | done | with_reducible rfl)⟩) (by assumption) ?_; (try simp only [Act.put, zs0, zs1, zs2]))
        (refine wpH_t 3 _ (by exact gE rfl) (by kernel_rfl) (by intro _ _ _ h; exact h) (Or.inl ⟨by rfl, (by intro _ h; (try dsimp only at h); go_simp; first | done | with_reducible rfl)⟩) (by assumption) ?_; (try simp only [Act.put, zs0, zs1, zs2]))
        (refine wpH_t 4 _ (by exact gE rfl) (by kernel_rfl) (by intro _ _ _ h; exact h) (Or.inl ⟨by rfl, (by intro _ h; (try dsimp only at h); go_simp; first | done | with_reducible rfl)⟩) (by assumption) ?_; (try simp only [Act.put, zs0, zs1, zs2]))
        (refine wpH_t 5 _ (by exact gE rfl) (by kernel_rfl) (by intro _ _ _ h; exact h) (Or.inl ⟨by rfl, (by intro _ h; (try dsimp only at h); go_simp; first | done | with_reducible rfl)⟩) (by assumption) ?_; (try simp only [Act.put, zs0, zs1, zs2]))
        (refine wpH_t 6 _ (by exact gE rfl) (by kernel_rfl) (by intro _ _ _ h; exact h) (Or.inl ⟨by rfl, (by intro _ h; (try dsimp only at h); go_simp; first | done | with_reducible rfl)⟩) (by assumption) ?_; (try simp only [Act.put, zs0, zs1, zs2]))
        (refine wpH_t 7 _ (by exact gE rfl) (by kernel_rfl) (by intro _ _ _ h; exact h) (Or.inl ⟨by rfl, (by intro _ h; (try dsimp only at h); go_simp; first | done | with_reducible rfl)⟩) (by assumption) ?_; (try simp only [Act.put, zs0, zs1, zs2]))
        (refine wpH_t 8 _ (by exact gE rfl) (by kernel_rfl) (by intro _ _ _ h; exact h) (Or.inl ⟨by rfl, (by intro _ h; (try dsimp only at h); go_simp; first | done | with_reducible rfl)⟩) (by assumption) ?_; (try simp only [Act.put, zs0, zs1, zs2]))
        (refine wpH_t 9 _ (by exact gE rfl) (by kernel_rfl) (by intro _ _ _ h; exact h) (Or.inl ⟨by rfl, (by intro _ h; (try dsimp only at h); go_simp; first | done | with_reducible rfl)⟩) (by assumption) ?_; (try simp only [Act.put, zs0, zs1, zs2]))
        obtain ⟨wb, hwb⟩ : ∃ wb, wb = wo.drew.setCells w.heap.size 0 (keyL y0 y1) := ⟨_, rfl⟩
        have Gb : But w.heap.size wo.drew wb := by rw [hwb]; exact but_setCells _ _ _ (World.grownBy.refl _ _)
        have Xb : Blk wb w.heap.size 29 (keyL y0 y1) := by rw [hwb]; exact Xa.drew.stored (keyL y0 y1) (show (2 : Nat) = 2 from rfl)
        have Yb := Ya.drew.but Gb (by omega)
        have Mb := Ma.drew.but Gb (by omega)
        obtain ⟨wc, hwc⟩ : ∃ wc, wc = wb.setCells w1.heap.size 0 (keyL y2 y3) := ⟨_, rfl⟩
        have Gc : But w1.heap.size wb wc := by rw [hwc]; exact but_setCells _ _ _ (World.grownBy.refl _ _)
        have Yc : Blk wc w1.heap.size 29 (keyL y2 y3) := by rw [hwc]; exact Yb.stored (keyL y2 y3) (show (2 : Nat) = 2 from rfl)
        have Xc := Xb.but Gc (by omega)
        have Mc := Mb.but Gc (by omega)
        (refine wpH_one (i := 10) (by exact gE rfl) (by kernel_rfl) (by rfl) ?_; (refine wp_store_mid 29 (.tmp 4) (.tmp 108) (by rfl) w.heap.size 0 (keyL y0 y1).toArray (by rfl) (by rfl) (show World.there _ _ 0 2 from Xa.drew.there) sizeKey (all_oneCell_toArray (by simp [Value.oneCell'])) ?_; show _ ∧ _; rw [← hwb]; refine ⟨⟨Mb.cell rfl, Mb.cell rfl, Mb.cell rfl, Mb.cell rfl⟩, ?_⟩); (try simp only [Act.put, zs0, zs1, zs2]))
        (refine wpH_one (i := 11) (by exact gE rfl) (by kernel_rfl) (by rfl) ?_; (refine wp_store_mid 29 (.tmp 5) (.tmp 113) (by rfl) w1.heap.size 0 (keyL y2 y3).toArray (by rfl) (by rfl) (show World.there _ _ 0 2 from Yb.there) sizeKey (all_oneCell_toArray (by simp [Value.oneCell'])) ?_; show _ ∧ _; rw [← hwc]; refine ⟨⟨Mc.cell rfl, Mc.cell rfl, Mc.cell rfl, Mc.cell rfl⟩, ?_⟩); (try simp only [Act.put, zs0, zs1, zs2]))
        have hHc : wc.cell? ⟨mb, 0, none⟩ = some (.int .u64 y0) ∧ wc.cell? ⟨mb, 1, none⟩ = some (.int .u64 y1) ∧ wc.cell? ⟨mb, 2, none⟩ = some (.int .u64 y2) ∧ wc.cell? ⟨mb, 3, none⟩ = some (.int .u64 y3) := ⟨Mc.cell rfl, Mc.cell rfl, Mc.cell rfl, Mc.cell rfl⟩
        (refine wpH_t 12 _ (by exact gE rfl) (by kernel_rfl) (by intro _ _ _ h; exact h) (Or.inl ⟨by rfl, (by intro _ h; (try dsimp only at h); go_simp; first | done | with_reducible rfl)⟩) (by assumption) ?_; (try simp only [Act.put, zs0, zs1, zs2]))
        refine wpH_done (by kernel_rfl) ?_ _
        clear hHc hHeld q0 q1 q2 q3 Mb Mc Ma Xb Yb
        go_wp2_with fail
        refine bodyPost_ret (res_ccx Tryd.results37 (by rfl) (by rfl) Xc Yc Tryd.underlying29 rfl sizeKey (show (2 : Nat) = 2 from rfl) (show (2 : Nat) = 2 from rfl) (by rfl)) rfl ?_
        exact ⟨by rw [HE.out]; rfl, (Ba.drew.trans (Gb.below Ba.size (Nat.le_refl _))).trans (Gc.below (by have := Ba.size; have h9 : wo.heap.size ≤ wb.heap.size := Gb.size; show _ ≤ wb.heap.size; omega) (by omega))⟩
  · have dG : (G != tg) = true := by simpa using hGt
    have HE : Hid (opV s k' g l = .tuple #[keyV 0 0, keyV 0 0, .int .i64 16]) := opV_err (by unfold opE staleB; rw [HT.out, HG.out, if_neg (by rw [HN.out]; omega), if_neg (by rw [HN.out]; omega), if_neg (by rw [dA, dB, dC]; decide), if_neg (by rw [HTG.out]; exact hGt)]) (by decide)
    clear hGt
    have XZ := X4
    have YZ := Y4
    have BZ := B4
    have zZ := BZ.size
    have lx := XZ.lt
    have ly := YZ.lt
    go_wp2_with (first
      | ((refine wpl_store (by rfl) 29 _ _ (by rfl) w.heap.size (by rfl) _ (by rfl) (keyL 0 0) rfl 29 _ XZ (show (2 : Nat) = 2 from rfl) _ sizeKey (by rfl) (by simp [Value.oneCell']) ?_; intro w8 X8 s8 g8); (have Y8 := YZ.but g8 (by omega)))
      | ((refine wpl_store (by rfl) 29 _ _ (by rfl) w1.heap.size (by rfl) _ (by rfl) (keyL 0 0) rfl 29 _ Y8 (show (2 : Nat) = 2 from rfl) _ sizeKey (by rfl) (by simp [Value.oneCell']) ?_; intro w9 Y9 s9 g9); (have X9 := X8.but g9 (by omega))))
    refine bodyPost_ret (res_ccx Tryd.results37 (by rfl) (by rfl) X9 Y9 Tryd.underlying29 rfl sizeKey (show (2 : Nat) = 2 from rfl) (show (2 : Nat) = 2 from rfl) (by rfl)) rfl ?_
    exact ⟨by rw [HE.out]; rfl, (BZ.trans (g8.below zZ (Nat.le_refl _))).trans (g9.below (by omega) (by omega))⟩
end Go.Proofs.YtachhbbofemfdaaDoor
namespace Go.Proofs.YtachhbbofemfdaaDoor
open Go.RowKit
set_option linter.unusedSimpArgs false
set_option linter.unusedVariables false
set_option maxRecDepth 100000
theorem key_eq (a b c d : Int) (W : World) : (Op.equalIn 10000 29 (keyV a b) (keyV c d)).run Tryd.prog W = .ok (decide (a = c) && decide (b = d)) W := by
  have hu : Tryd.prog.underlying 29 = some (.array 2 22) := Tryd.underlying29
  have hc : Tryd.prog.cellsOf 22 = 1 := by kernel_rfl
  obtain ⟨i, hi⟩ : ∃ i, Tryd.prog.info? 22 = some i := info_of_underlying Tryd.underlying22
  have h := run_equalIn_array (P := Tryd.prog) W 9999 #[.int .u64 a, .int .u64 b] #[.int .u64 c, .int .u64 d] hu hi
  refine Eq.trans h ?_
  rw [hc]
  have hp : ∀ (x y : Int) (W : World), (part 22 #[.int .u64 x, .int .u64 y] 0).run Tryd.prog W = .ok (.int .u64 x) W := fun x y W => by kernel_rfl
  have hp1 : ∀ (x y : Int) (W : World), (part 22 #[.int .u64 x, .int .u64 y] 1).run Tryd.prog W = .ok (.int .u64 y) W := fun x y W => by kernel_rfl
  have hq : ∀ (x y : Int) (W : World), (Op.equalIn 9999 22 (.int .u64 x) (.int .u64 y)).run Tryd.prog W = .ok (x == y) W := fun x y W => run_equalIn_int W 9998 22 .u64 .u64 x y Tryd.underlying22
  show (Op.eqItems 9999 22 1 _ _ [0, 1]).run _ _ = _
  by_cases h1 : a = c
  · by_cases h2 : b = d
    · simp [h1, h2, Op.eqItems, Sem.run_bind, Sem.run_ite, hp, hp1, hq]
    · simp [h1, h2, Op.eqItems, Sem.run_bind, Sem.run_ite, hp, hp1, hq]
  · simp [h1, Op.eqItems, Sem.run_bind, Sem.run_ite, hp, hp1, hq]
theorem xr_nat {a b : Int} (ha : U64 a) (hb : U64 b) : xr a b = ((a.toNat ^^^ b.toNat : Nat) : Int) := by
  obtain ⟨a0, a1⟩ := ha
  obtain ⟨b0, b1⟩ := hb
  exact Go.u64_xor a b a0 (by omega) b0 (by omega)
theorem xr_back {a b : Int} (ha : U64 a) (hb : U64 b) : xr (xr a b) b = a := by
  rw [xr_nat (xr_u64 ha hb) hb, xr_nat ha hb]
  obtain ⟨a0, a1⟩ := ha
  simp only [Int.toNat_natCast]
  rw [Nat.xor_assoc, Nat.xor_self, Nat.xor_zero]
  omega
theorem u64_lt {x : Int} (h : U64 x) : 0 ≤ x ∧ x < 256 ^ 8 ∧ x < 18446744073709551616 := by
  obtain ⟨h0, h1⟩ := h
  exact ⟨h0, by rw [p8]; omega, by omega⟩
theorem fB_u64 {x : Int} (m : List Int) (h : U64 x) : fB (bytesB 8 x ++ m) 0 8 = x := fB_head 8 x m (u64_lt h).1 (u64_lt h).2.1 (u64_lt h).2.2
/-- a cookie's bytes, one number behind the other -/
def ckP (g n y0 y1 y2 y3 t : Int) : List Int := bytesB 4 g ++ (bytesB 8 n ++ (bytesB 8 y0 ++ (bytesB 8 y1 ++ (bytesB 8 y2 ++ (bytesB 8 y3 ++ bytesB 8 t)))))
theorem ckP_of (g n y0 y1 y2 y3 t : Int) : sbB g n y0 y1 y2 y3 4 ++ bytesB 8 t = ckP g n y0 y1 y2 y3 t := by
  show bytesB 4 g ++ bytesB 8 n ++ bytesB 8 y0 ++ bytesB 8 y1 ++ bytesB 8 y2 ++ bytesB 8 y3 ++ bytesB 8 t = _
  unfold ckP
  simp only [List.append_assoc]
theorem ckP_read {g n y0 y1 y2 y3 t : Int} (hg : Gn g) (hn : U64 n) (h0 : U64 y0) (h1 : U64 y1) (h2 : U64 y2) (h3 : U64 y3) (ht : U64 t) :
    fB (ckP g n y0 y1 y2 y3 t) 0 4 = g ∧ fB (ckP g n y0 y1 y2 y3 t) 4 8 = n ∧ fB (ckP g n y0 y1 y2 y3 t) 12 8 = y0 ∧ fB (ckP g n y0 y1 y2 y3 t) 20 8 = y1 ∧ fB (ckP g n y0 y1 y2 y3 t) 28 8 = y2 ∧ fB (ckP g n y0 y1 y2 y3 t) 36 8 = y3 ∧ fB (ckP g n y0 y1 y2 y3 t) 44 8 = t ∧
      (ckP g n y0 y1 y2 y3 t).take 44 = sbB g n y0 y1 y2 y3 4 := by
  have l8 := fun x : Int => bytesB_length 8 x
  have l4 := bytesB_length 4 g
  refine ⟨?_, ?_, ?_, ?_, ?_, ?_, ?_, ?_⟩
  · unfold ckP; exact fB_head 4 g _ hg.1 (by rw [p4]; have := hg.2; omega) (by have := hg.2; omega)
  · unfold ckP; rw [fB_skip _ _ 0 8 4 l4]; exact fB_u64 _ hn
  · unfold ckP; rw [fB_skip _ _ 8 8 4 l4, fB_skip _ _ 0 8 8 (l8 _)]; exact fB_u64 _ h0
  · unfold ckP; rw [fB_skip _ _ 16 8 4 l4, fB_skip _ _ 8 8 8 (l8 _), fB_skip _ _ 0 8 8 (l8 _)]; exact fB_u64 _ h1
  · unfold ckP; rw [fB_skip _ _ 24 8 4 l4, fB_skip _ _ 16 8 8 (l8 _), fB_skip _ _ 8 8 8 (l8 _), fB_skip _ _ 0 8 8 (l8 _)]; exact fB_u64 _ h2
  · unfold ckP; rw [fB_skip _ _ 32 8 4 l4, fB_skip _ _ 24 8 8 (l8 _), fB_skip _ _ 16 8 8 (l8 _), fB_skip _ _ 8 8 8 (l8 _), fB_skip _ _ 0 8 8 (l8 _)]; exact fB_u64 _ h3
  · unfold ckP; rw [fB_skip _ _ 40 8 4 l4, fB_skip _ _ 32 8 8 (l8 _), fB_skip _ _ 24 8 8 (l8 _), fB_skip _ _ 16 8 8 (l8 _), fB_skip _ _ 8 8 8 (l8 _), fB_skip _ _ 0 8 8 (l8 _)]
    have := fB_u64 [] ht
    rwa [List.append_nil] at this
  · rw [← ckP_of, List.take_left' (sbB_len _ _ _ _ _ _).2.2.2.2]
theorem sbB_byt (g n y0 y1 y2 y3 : Int) : Byt (sbB g n y0 y1 y2 y3 4) :=
  (((((bytesB_byt 4 g).app (bytesB_byt 8 n)).app (bytesB_byt 8 y0)).app (bytesB_byt 8 y1)).app (bytesB_byt 8 y2)).app (bytesB_byt 8 y3)
theorem ckB_byt (s g n c0 c1 s0 s1 : Int) : Byt (ckB s g n c0 c1 s0 s1) := by
  unfold ckB
  exact (sbB_byt _ _ _ _ _ _).app (bytesB_byt 8 _)
/-- what a jar makes of a cookie that it, or one with the same seed, has sealed -/
theorem ck_open {s k g' g n c0 c1 s0 s1 : Int} (hg : Gn g) (hn : U64 n) (hc0 : U64 c0) (hc1 : U64 c1) (hs0 : U64 s0) (hs1 : U64 s1) :
    opV s k g' (ckB s g n c0 c1 s0 s1) = if staleB k g' g = true then .tuple #[keyV 0 0, keyV 0 0, .int .i64 17] else .tuple #[keyV c0 c1, keyV s0 s1, .int .i64 0] := by
  have hl := ckB_len s g n c0 c1 s0 s1
  have e : ckB s g n c0 c1 s0 s1 = ckP g n (xr c0 (padF s g n 0)) (xr c1 (padF s g n 1)) (xr s0 (padF s g n 2)) (xr s1 (padF s g n 3)) (jtag s g (sbB g n (xr c0 (padF s g n 0)) (xr c1 (padF s g n 1)) (xr s0 (padF s g n 2)) (xr s1 (padF s g n 3)) 4)) := by
    unfold ckB; exact ckP_of _ _ _ _ _ _ _
  have b0 := xr_back hc0 (padF_u64 s g n 0)
  have b1 := xr_back hc1 (padF_u64 s g n 1)
  have b2 := xr_back hs0 (padF_u64 s g n 2)
  have b3 := xr_back hs1 (padF_u64 s g n 3)
  obtain ⟨f0, f1, f2, f3, f4, f5, f6, f7⟩ := ckP_read hg hn (xr_u64 hc0 (padF_u64 s g n 0)) (xr_u64 hc1 (padF_u64 s g n 1)) (xr_u64 hs0 (padF_u64 s g n 2)) (xr_u64 hs1 (padF_u64 s g n 3)) (jtag_u64 s g (sbB g n (xr c0 (padF s g n 0)) (xr c1 (padF s g n 1)) (xr s0 (padF s g n 2)) (xr s1 (padF s g n 3)) 4))
  rw [← e] at f0 f1 f2 f3 f4 f5 f6 f7
  generalize xr c0 (padF s g n 0) = y0 at f0 f1 f2 f3 f4 f5 f6 f7 b0
  generalize xr c1 (padF s g n 1) = y1 at f0 f1 f2 f3 f4 f5 f6 f7 b1
  generalize xr s0 (padF s g n 2) = y2 at f0 f1 f2 f3 f4 f5 f6 f7 b2
  generalize xr s1 (padF s g n 3) = y3 at f0 f1 f2 f3 f4 f5 f6 f7 b3
  generalize ckB s g n c0 c1 s0 s1 = L at hl f0 f1 f2 f3 f4 f5 f6 f7 ⊢
  by_cases h : staleB k g' g = true
  · rw [if_pos h]
    exact opV_err (by unfold opE; rw [if_neg (by omega), if_neg (by omega), f0, if_pos h]) (by decide)
  · rw [if_neg h, opV_ok (by unfold opE; rw [if_neg (by omega), if_neg (by omega), f0, if_neg h, f6, f7, if_pos rfl]), f0, f1, f2, f3, f4, f5, b0, b1, b2, b3]
theorem open_any (bj : Nat) (s k g : Int) (A : Option Addr) (n c : Nat) (l : List Int) (w : World) (hn : l.length = n) (h : Bs w 0 w.heap.size A l) (hc : n ≤ c) (hcc : c ≤ 9223372036854775807) (hs : U64 s) (hg : Gn g) (hk : 1 ≤ k ∧ k ≤ 8) (hJ : Blk w bj 84 (jarL s k g)) (hR : Rnd w) :
    Calls Tryd.prog 32 #[.pointer (some ⟨bj, 0, none⟩), .slice A n c] w fun e w' => e = .returned (opV s k g l) ∧ Below w.heap.size w w' := by
  by_cases h52 : n = 52
  · subst h52
    exact open_52 bj s k g A c l w hn h hc hcc hs hg hk hJ hR
  · exact open_len bj s k g A n c l w hn h52
theorem ropen_any (bj : Nat) (s k g : Int) (A : Option Addr) (n c : Nat) (l : List Int) (w : World) (hn : l.length = n) (h : Bs w 0 w.heap.size A l) (hc : n ≤ c) (hcc : c ≤ 9223372036854775807) (hs : U64 s) (hg : Gn g) (hk : 1 ≤ k ∧ k ≤ 8) (hJ : Blk w bj 89 (jarL s k g)) :
    Calls Tryd.prog 37 #[.pointer (some ⟨bj, 0, none⟩), .slice A n c] w fun e w' => e = .returned (opV s k g l) ∧ Below w.heap.size w w' := by
  by_cases h52 : n = 52
  · subst h52
    exact ropen_52 bj s k g A c l w hn h hc hcc hs hg hk hJ
  · exact ropen_len bj s k g A n c l w hn h52
end Go.Proofs.YtachhbbofemfdaaDoor
