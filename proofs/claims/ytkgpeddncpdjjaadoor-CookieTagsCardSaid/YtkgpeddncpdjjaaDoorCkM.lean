/- The jar of cookies: awake and turned. -/
import Derived.Test.YtkgpeddncpdjjaaDoorCkL
import Derived.Test.YtkgpeddncpdjjaaDoorBy
namespace Go.Proofs.YtkgpeddncpdjjaaDoor
open Go.RowKit
set_option linter.unusedSimpArgs false
set_option linter.unusedVariables false
set_option maxRecDepth 100000
theorem u64n (n : Int) (h : 0 ≤ n ∧ n ≤ 18446744073709551615) : U64 n := h
open Go.RowKit
theorem ex_seal : opV 5 1 1 (ckB 5 1 258 1 2 3 4) = .tuple #[keyV 1 2, keyV 3 4, .int .i64 0] := by
  rw [ck_open ⟨by omega, by omega⟩ (u64n 258 (by omega)) (u64n 1 (by omega)) (u64n 2 (by omega)) (u64n 3 (by omega)) (u64n 4 (by omega)), if_neg (by decide)]
theorem ex_stale : opV 5 1 2 (ckB 5 1 258 1 2 3 4) = .tuple #[keyV 0 0, keyV 0 0, .int .i64 17] := by
  rw [ck_open ⟨by omega, by omega⟩ (u64n 258 (by omega)) (u64n 1 (by omega)) (u64n 2 (by omega)) (u64n 3 (by omega)) (u64n 4 (by omega)), if_pos (by decide)]
theorem ex_12 : (ckB 5 1 258 1 2 3 4).take 12 = [0, 0, 0, 1, 0, 0, 0, 0, 0, 0, 1, 2] := by
  unfold ckB
  rw [List.take_append_of_le_length (by rw [(sbB_len _ _ _ _ _ _).2.2.2.2]; omega)]
  show ((bytesB 4 1 ++ bytesB 8 258 ++ _ ++ _ ++ _) ++ _ : List Int).take 12 = _
  simp only [List.append_assoc]
  rw [← List.append_assoc, List.take_left' (by simp [bytesB_length])]
  decide
set_option maxHeartbeats 16000000 in
theorem awake_any (w : World) (hR : Rnd w) : Calls Tryd.prog 15 #[] w fun e w' => e = .returned (.bool true) ∧ Below w.heap.size w w' := by
  have hw0 := hR.lt
  have hcl : Hid ((ckB 5 1 258 1 2 3 4).length = 52) := ckB_len _ _ _ _ _ _ _
  have hS := fun bj W hJ hr => seal_any bj 5 1 1 1 2 3 4 258 W (u64n 5 (by omega)) ⟨by omega, by omega⟩ (u64n 258 (by omega)) (u64n 1 (by omega)) (u64n 2 (by omega)) (u64n 3 (by omega)) (u64n 4 (by omega)) hJ hr
  have hO1 := fun bj g A n c l W hn hB hc hcc hg hJ hr => open_any bj 5 1 g A n c l W hn hB hc hcc (u64n 5 (by omega)) hg (by omega) hJ hr
  have h51 := zeros_open 5 1 1 51
  have h53 := zeros_open 5 1 1 53
  have h52 := zeros_open 5 1 1 52
  rw [if_pos (by omega)] at h51
  rw [if_neg (by omega), if_pos (by omega)] at h53
  rw [if_neg (by omega), if_neg (by omega)] at h52
  have H51 := Lib.hid h51
  have H52 := Lib.hid h52
  have H53 := Lib.hid h53
  have HS := Lib.hid ex_seal
  have HT := Lib.hid ex_stale
  have H12 := Lib.hid ex_12
  clear h51 h52 h53
  generalize ckB 5 1 258 1 2 3 4 = CK at hS HS HT H12 hcl
  have hm51 : ∀ W : World, (Instr.makeSlice 30 (.int .i64 51) (.int .i64 51)).run Tryd.prog W = .ok (.slice (some ⟨W.heap.size, 0, none⟩) 51 51) (W.alloc (.cells (madeCells #[.int .u8 0] 51) 5)) := fun W => makeU8 .i64 .i64 51 (by omega) W
  have hm53 : ∀ W : World, (Instr.makeSlice 30 (.int .i64 53) (.int .i64 53)).run Tryd.prog W = .ok (.slice (some ⟨W.heap.size, 0, none⟩) 53 53) (W.alloc (.cells (madeCells #[.int .u8 0] 53) 5)) := fun W => makeU8 .i64 .i64 53 (by omega) W
  have hm52 : ∀ W : World, (Instr.makeSlice 30 (.int .i64 52) (.int .i64 52)).run Tryd.prog W = .ok (.slice (some ⟨W.heap.size, 0, none⟩) 52 52) (W.alloc (.cells (madeCells #[.int .u8 0] 52) 5)) := fun W => makeU8 .i64 .i64 52 (by omega) W
  have hke := key_eq
  go_enter Tryd.func15, Tryd.ntmps15
  go_wp2_with fail
  with_reducible refine (new_some 5 1 w (by omega) (by omega)).mono ?_
  rintro e w1 ⟨rfl, J1, b1⟩
  have R1 := hR.below b1 hw0
  have z1 := J1.lt
  go_wp2_with (first
    | ((with_reducible show wpList _ _ _ (⟨some 2, _, _, _, _, _⟩ :: _) _ _); refine wpl_alloc (by rfl) 24 (by rfl) (keyV 0 0) (keyL 0 0) zeroKey rfl ?_; intro w2 K2 s2 b2)
    | (((with_reducible show wpList _ _ _ (⟨some 3, _, _, _, _, _⟩ :: _) _ _); refine wpl_alloc (by rfl) 24 (by rfl) (keyV 0 0) (keyL 0 0) zeroKey rfl ?_; intro w3 L3 s3 b3); (have K3 := K2.below b3 (by omega)))
    | ((refine wpl_store (by rfl) 24 _ _ (by rfl) w1.heap.size (by rfl) _ (by rfl) (keyL 1 2) rfl 24 _ K3 (show (2 : Nat) = 2 from rfl) _ sizeKey (by rfl) (by simp [Value.oneCell']) ?_; intro w4 K4 s4 g4); (have L4 := L3.but g4 (by omega)))
    | ((refine wpl_store (by rfl) 24 _ _ (by rfl) w2.heap.size (by rfl) _ (by rfl) (keyL 3 4) rfl 24 _ L4 (show (2 : Nat) = 2 from rfl) _ sizeKey (by rfl) (by simp [Value.oneCell']) ?_; intro w5 L5 s5 g5); (have K5 := K4.but g5 (by omega)))
    | (refine wpl_load (by rfl) 24 _ (by rfl) w1.heap.size (by rfl) 24 (keyL 1 2) K5 _ Tryd.underlying24 rfl _ sizeKey (show (2 : Nat) = 2 from rfl) ?_) | (refine wpl_load (by rfl) 24 _ (by rfl) w2.heap.size (by rfl) 24 (keyL 3 4) L5 _ Tryd.underlying24 rfl _ sizeKey (show (2 : Nat) = 2 from rfl) ?_))
  have J5 := (((J1.below b2 (by omega)).below b3 (by omega)).but g4 (by omega)).but g5 (by omega)
  have R5 := (((R1.below b2 R1.lt).below b3 (by omega)).but g4 (by omega)).but g5 (by omega)
  have B5 := (((b1.trans (b2.mono (by omega))).trans (b3.mono (by omega))).trans (g4.below (by omega) (by omega))).trans (g5.below (by omega) (by omega))
  clear K2 L3 K3 K4 L4 J1 R1 b1 b2 b3 g4 g5
  with_reducible refine (hS w.heap.size w5 J5 R5).mono ?_
  rintro e wb ⟨Ac, cc, rfl, O6, b6⟩
  have J6 := J5.below b6 (by omega)
  have R6 := R5.below b6 (by omega)
  have K6 := K5.below b6 (by omega)
  have L6 := L5.below b6 (by omega)
  have B6 := B5.trans (b6.mono (by omega))
  have hcap := O6.cap_le
  rw [hcl.out] at hcap
  have hcm := O6.cap_max
  have hbs := O6.bs
  have lo6 : 0 < w.heap.size ∧ w.heap.size < wb.heap.size ∧ w1.heap.size < wb.heap.size ∧ w2.heap.size < wb.heap.size := ⟨by omega, J6.lt, K6.lt, L6.lt⟩
  clear J5 R5 K5 L5 B5 b6 O6 hS
  have hE := hO1 w.heap.size 1 Ac 52 cc CK wb hcl.out (hbs.wide (Nat.zero_le _) (Nat.le_refl _)) hcap hcm ⟨by omega, by omega⟩ J6 R6
  rw [HS.out] at hE
  go_wp2_with fail
  with_reducible refine hE.mono ?_
  rintro e a1 ⟨rfl, ab⟩
  clear hE
  have az := ab.size
  go_wp2_with (first
    | ((with_reducible show wpList _ _ _ (⟨some 5, _, _, _, _, _⟩ :: _) _ _); refine wpl_alloc (by rfl) 24 (by rfl) (keyV 0 0) (keyL 0 0) zeroKey rfl ?_; intro a2 aXA at2 aq2)
    | (((with_reducible show wpList _ _ _ (⟨some 6, _, _, _, _, _⟩ :: _) _ _); refine wpl_alloc (by rfl) 24 (by rfl) (keyV 0 0) (keyL 0 0) zeroKey rfl ?_; intro a3 aYA at3 aq3); (have aXB := aXA.below aq3 (by omega)))
    | ((refine wpl_store (by rfl) 24 _ _ (by rfl) a1.heap.size (by rfl) _ (by rfl) (keyL 1 2) rfl 24 _ aXB (show (2 : Nat) = 2 from rfl) _ sizeKey (by rfl) (by simp [Value.oneCell']) ?_; intro a4 aXC at4 ar4); (have aYC := aYA.but ar4 (by omega)))
    | ((refine wpl_store (by rfl) 24 _ _ (by rfl) a2.heap.size (by rfl) _ (by rfl) (keyL 3 4) rfl 24 _ aYC (show (2 : Nat) = 2 from rfl) _ sizeKey (by rfl) (by simp [Value.oneCell']) ?_; intro a5 aYD at5 ar5); (have aXD := aXC.but ar5 (by omega))))
  have Ba : Below wb.heap.size wb a5 := ((((ab).trans (aq2.mono (ab).size)).trans (aq3.mono (by have := (ab).size; omega))).trans (ar4.below (by have := (ab).size; omega) (by have := (ab).size; omega))).trans (ar5.below (by have := (ab).size; omega) (by have := (ab).size; omega))
  have Xa := aXD
  have Ya := aYD
  have Ja := J6.below Ba lo6.2.1
  have Ra := R6.below Ba (by omega)
  have Ka := K6.below Ba lo6.2.2.1
  have La := L6.below Ba lo6.2.2.2
  have ha : Bs a5 w5.heap.size a5.heap.size Ac CK := (hbs.below Ba (Nat.le_refl _)).wide (Nat.le_refl _) Ba.size
  have Bw := B6.trans (Ba.mono B6.size)
  have B0 := Below.refl a5.heap.size a5
  have loa : 0 < a5.heap.size ∧ w.heap.size < a5.heap.size ∧ w1.heap.size < a5.heap.size ∧ w2.heap.size < a5.heap.size ∧ a1.heap.size < a5.heap.size ∧ a2.heap.size < a5.heap.size := ⟨Ra.lt, Ja.lt, Ka.lt, La.lt, Xa.lt, Ya.lt⟩
  clear aXA aYA aXB aXC aYC aXD aYD aq2 aq3 ar4 ar5 ab J6 R6 K6 L6 hbs B6 Ba
  have cm : Below a5.heap.size a5 ((a5).alloc (.cells (madeCells #[.int .u8 0] 51) 5)) := (B0).alloc (by have := B0.size; omega) _
  have hE := hO1 w.heap.size 1 (some ⟨(a5).heap.size, 0, none⟩) 51 51 (List.replicate 51 0) _ (List.length_replicate) ((Ow.made a5 51 (by omega)).bs.wide (Nat.zero_le _) (Nat.le_refl _)) (Nat.le_refl _) (by omega) ⟨by omega, by omega⟩ (Ja.below cm loa.2.1) (Ra.below cm (by omega))
  rw [H51.out] at hE
  go_wp2_with fail
  with_reducible refine hE.mono ?_
  rintro e c1 ⟨rfl, cb⟩
  have cB := (cm).trans (cb.mono cm.size)
  clear hE cm cb
  have cz := cB.size
  go_wp2_with (first
    | ((with_reducible show wpList _ _ _ (⟨some 8, _, _, _, _, _⟩ :: _) _ _); refine wpl_alloc (by rfl) 24 (by rfl) (keyV 0 0) (keyL 0 0) zeroKey rfl ?_; intro c2 cXA ct2 cq2)
    | (((with_reducible show wpList _ _ _ (⟨some 9, _, _, _, _, _⟩ :: _) _ _); refine wpl_alloc (by rfl) 24 (by rfl) (keyV 0 0) (keyL 0 0) zeroKey rfl ?_; intro c3 cYA ct3 cq3); (have cXB := cXA.below cq3 (by omega)))
    | ((refine wpl_store (by rfl) 24 _ _ (by rfl) c1.heap.size (by rfl) _ (by rfl) (keyL 0 0) rfl 24 _ cXB (show (2 : Nat) = 2 from rfl) _ sizeKey (by rfl) (by simp [Value.oneCell']) ?_; intro c4 cXC ct4 cr4); (have cYC := cYA.but cr4 (by omega)))
    | ((refine wpl_store (by rfl) 24 _ _ (by rfl) c2.heap.size (by rfl) _ (by rfl) (keyL 0 0) rfl 24 _ cYC (show (2 : Nat) = 2 from rfl) _ sizeKey (by rfl) (by simp [Value.oneCell']) ?_; intro c5 cYD ct5 cr5); (have cXD := cXC.but cr5 (by omega))))
  have Bc : Below a5.heap.size a5 c5 := ((((cB).trans (cq2.mono (cB).size)).trans (cq3.mono (by have := (cB).size; omega))).trans (cr4.below (by have := (cB).size; omega) (by have := (cB).size; omega))).trans (cr5.below (by have := (cB).size; omega) (by have := (cB).size; omega))
  have dm : Below a5.heap.size a5 ((c5).alloc (.cells (madeCells #[.int .u8 0] 53) 5)) := (Bc).alloc (by have := Bc.size; omega) _
  have hE := hO1 w.heap.size 1 (some ⟨(c5).heap.size, 0, none⟩) 53 53 (List.replicate 53 0) _ (List.length_replicate) ((Ow.made c5 53 (by omega)).bs.wide (Nat.zero_le _) (Nat.le_refl _)) (Nat.le_refl _) (by omega) ⟨by omega, by omega⟩ (Ja.below dm loa.2.1) (Ra.below dm (by omega))
  rw [H53.out] at hE
  go_wp2_with fail
  with_reducible refine hE.mono ?_
  rintro e d1 ⟨rfl, db⟩
  have dB := (dm).trans (db.mono dm.size)
  clear hE dm db
  have dz := dB.size
  go_wp2_with (first
    | ((with_reducible show wpList _ _ _ (⟨some 11, _, _, _, _, _⟩ :: _) _ _); refine wpl_alloc (by rfl) 24 (by rfl) (keyV 0 0) (keyL 0 0) zeroKey rfl ?_; intro d2 dXA dt2 dq2)
    | (((with_reducible show wpList _ _ _ (⟨some 12, _, _, _, _, _⟩ :: _) _ _); refine wpl_alloc (by rfl) 24 (by rfl) (keyV 0 0) (keyL 0 0) zeroKey rfl ?_; intro d3 dYA dt3 dq3); (have dXB := dXA.below dq3 (by omega)))
    | ((refine wpl_store (by rfl) 24 _ _ (by rfl) d1.heap.size (by rfl) _ (by rfl) (keyL 0 0) rfl 24 _ dXB (show (2 : Nat) = 2 from rfl) _ sizeKey (by rfl) (by simp [Value.oneCell']) ?_; intro d4 dXC dt4 dr4); (have dYC := dYA.but dr4 (by omega)))
    | ((refine wpl_store (by rfl) 24 _ _ (by rfl) d2.heap.size (by rfl) _ (by rfl) (keyL 0 0) rfl 24 _ dYC (show (2 : Nat) = 2 from rfl) _ sizeKey (by rfl) (by simp [Value.oneCell']) ?_; intro d5 dYD dt5 dr5); (have dXD := dXC.but dr5 (by omega))))
  have Bd : Below a5.heap.size a5 d5 := ((((dB).trans (dq2.mono (dB).size)).trans (dq3.mono (by have := (dB).size; omega))).trans (dr4.below (by have := (dB).size; omega) (by have := (dB).size; omega))).trans (dr5.below (by have := (dB).size; omega) (by have := (dB).size; omega))
  have fm : Below a5.heap.size a5 ((d5).alloc (.cells (madeCells #[.int .u8 0] 52) 5)) := (Bd).alloc (by have := Bd.size; omega) _
  have hE := hO1 w.heap.size 1 (some ⟨(d5).heap.size, 0, none⟩) 52 52 (List.replicate 52 0) _ (List.length_replicate) ((Ow.made d5 52 (by omega)).bs.wide (Nat.zero_le _) (Nat.le_refl _)) (Nat.le_refl _) (by omega) ⟨by omega, by omega⟩ (Ja.below fm loa.2.1) (Ra.below fm (by omega))
  rw [H52.out] at hE
  go_wp2_with fail
  with_reducible refine hE.mono ?_
  rintro e f1 ⟨rfl, fb⟩
  have fB := (fm).trans (fb.mono fm.size)
  clear hE fm fb
  have fz := fB.size
  go_wp2_with (first
    | ((with_reducible show wpList _ _ _ (⟨some 14, _, _, _, _, _⟩ :: _) _ _); refine wpl_alloc (by rfl) 24 (by rfl) (keyV 0 0) (keyL 0 0) zeroKey rfl ?_; intro f2 fXA ft2 fq2)
    | (((with_reducible show wpList _ _ _ (⟨some 15, _, _, _, _, _⟩ :: _) _ _); refine wpl_alloc (by rfl) 24 (by rfl) (keyV 0 0) (keyL 0 0) zeroKey rfl ?_; intro f3 fYA ft3 fq3); (have fXB := fXA.below fq3 (by omega)))
    | ((refine wpl_store (by rfl) 24 _ _ (by rfl) f1.heap.size (by rfl) _ (by rfl) (keyL 0 0) rfl 24 _ fXB (show (2 : Nat) = 2 from rfl) _ sizeKey (by rfl) (by simp [Value.oneCell']) ?_; intro f4 fXC ft4 fr4); (have fYC := fYA.but fr4 (by omega)))
    | ((refine wpl_store (by rfl) 24 _ _ (by rfl) f2.heap.size (by rfl) _ (by rfl) (keyL 0 0) rfl 24 _ fYC (show (2 : Nat) = 2 from rfl) _ sizeKey (by rfl) (by simp [Value.oneCell']) ?_; intro f5 fYD ft5 fr5); (have fXD := fXC.but fr5 (by omega))))
  have Bf : Below a5.heap.size a5 f5 := ((((fB).trans (fq2.mono (fB).size)).trans (fq3.mono (by have := (fB).size; omega))).trans (fr4.below (by have := (fB).size; omega) (by have := (fB).size; omega))).trans (fr5.below (by have := (fB).size; omega) (by have := (fB).size; omega))
  have fB' := fB
  clear fB cXA cYA cXB cXC cYC cXD cYD cq2 cq3 cr4 cr5 dXA dYA dXB dXC dYC dXD dYD dq2 dq3 dr4 dr5 fXA fYA fXB fXC fYC fXD fYD fq2 fq3 fr4 fr5
  have l12 : Bs f5 w5.heap.size a5.heap.size Ac (CK.take 12) := (ha.below Bf (Nat.le_refl _)).take 12
  rw [H12.out] at l12
  have c12 : (12 : Int) ≤ cc := by omega
  have hlit := Ow.lit f5 [0, 0, 0, 1, 0, 0, 0, 0, 0, 0, 1, 2] #[.int .u8 0, .int .u8 0, .int .u8 0, .int .u8 1, .int .u8 0, .int .u8 0, .int .u8 0, .int .u8 0, .int .u8 0, .int .u8 0, .int .u8 1, .int .u8 2] rfl (by decide) (by simp)
  have n6 : Below f5.heap.size f5 (f5.alloc (.cells #[.int .u8 0, .int .u8 0, .int .u8 0, .int .u8 1, .int .u8 0, .int .u8 0, .int .u8 0, .int .u8 0, .int .u8 0, .int .u8 0, .int .u8 1, .int .u8 2] 5)) := (Below.refl _ _).alloc (Nat.le_refl _) _
  have m6 := Bf.trans (n6.mono Bf.size)
  have hE := bequal_any Ac (some ⟨f5.heap.size, 0, none⟩) 12 12 cc 12 _ _ _ _ _ _ _ rfl rfl (l12.below n6 Bf.size) hlit.bs
  rw [eqB_self] at hE
  have Xg := Xa.below m6 loa.2.2.2.2.1
  have Yg := Ya.below m6 loa.2.2.2.2.2
  have Kg := Ka.below m6 loa.2.2.1
  have Lg := La.below m6 loa.2.2.2.1
  have Jg := Ja.below m6 loa.2.1
  have Rg := Ra.below m6 loa.1
  have hg := ha.below m6 (Nat.le_refl _)
  have Bg := Bw.trans (m6.mono Bw.size)
  have zg := m6.size
  clear hlit l12 Xa Ya Ka La Ja Ra ha Bw m6 n6 Bf Bc Bd cB dB fB' hm51 hm52 hm53
  go_wp2_with (first
    | (go_at_call 10; ((with_reducible refine hE.mono ?_); rintro e _ ⟨rfl, rfl⟩))
    | (refine wpl_load (by rfl) 24 _ (by rfl) a1.heap.size (by rfl) 24 (keyL 1 2) Xg _ Tryd.underlying24 rfl _ sizeKey (show (2 : Nat) = 2 from rfl) ?_) | (refine wpl_load (by rfl) 24 _ (by rfl) a2.heap.size (by rfl) 24 (keyL 3 4) Yg _ Tryd.underlying24 rfl _ sizeKey (show (2 : Nat) = 2 from rfl) ?_) | (refine wpl_load (by rfl) 24 _ (by rfl) w1.heap.size (by rfl) 24 (keyL 1 2) Kg _ Tryd.underlying24 rfl _ sizeKey (show (2 : Nat) = 2 from rfl) ?_) | (refine wpl_load (by rfl) 24 _ (by rfl) w2.heap.size (by rfl) 24 (keyL 3 4) Lg _ Tryd.underlying24 rfl _ sizeKey (show (2 : Nat) = 2 from rfl) ?_))
  generalize f5.alloc (.cells #[.int .u8 0, .int .u8 0, .int .u8 0, .int .u8 1, .int .u8 0, .int .u8 0, .int .u8 0, .int .u8 0, .int .u8 0, .int .u8 0, .int .u8 1, .int .u8 2] 5) = wg at Jg Rg hg Bg zg Xg Yg Kg Lg hE ⊢
  clear hE Xg Yg Kg Lg
  have hrot := rot_ok w.heap.size 5 1 1 wg Jg (by omega) (by omega)
  with_reducible refine hrot.mono ?_
  rintro e wh ⟨rfl, Jh, gh⟩
  have Rh := Rg.but gh (by omega)
  have hlg : w.heap.size < wg.heap.size := Jg.lt
  have zgh := gh.size
  have hh := (hg.grown gh zg (by intro r hr; simp at hr; left; omega)).wide (Nat.zero_le _) (hi' := wh.heap.size) (by omega)
  have Bh := Bg.trans (gh.below Bg.size (Nat.le_refl _))
  have hE := hO1 w.heap.size 2 Ac 52 cc CK wh hcl.out hh hcap hcm ⟨by omega, by omega⟩ Jh Rh
  rw [HT.out] at hE
  go_wp2_with fail
  with_reducible refine hE.mono ?_
  rintro e k1 ⟨rfl, kb⟩
  have Jk := Jh.below kb Jh.lt
  have Bk := Bh.trans (kb.mono Bh.size)
  have lk := Jk.lt
  clear hE Jh Rh hh Bh Bg Rg Jg hg gh kb
  go_wp2_with (first
    | ((with_reducible show wpList _ _ _ (⟨some 18, _, _, _, _, _⟩ :: _) _ _); refine wpl_alloc (by rfl) 24 (by rfl) (keyV 0 0) (keyL 0 0) zeroKey rfl ?_; intro k2 kX kt2 kq2)
    | (((with_reducible show wpList _ _ _ (⟨some 19, _, _, _, _, _⟩ :: _) _ _); refine wpl_alloc (by rfl) 24 (by rfl) (keyV 0 0) (keyL 0 0) zeroKey rfl ?_; intro k3 kY kt3 kq3); (have kX3 := kX.below kq3 (by omega)))
    | ((refine wpl_store (by rfl) 24 _ _ (by rfl) k1.heap.size (by rfl) _ (by rfl) (keyL 0 0) rfl 24 _ kX3 (show (2 : Nat) = 2 from rfl) _ sizeKey (by rfl) (by simp [Value.oneCell']) ?_; intro k4 kX4 kt4 kr4); (have kY4 := kY.but kr4 (by omega)))
    | ((refine wpl_store (by rfl) 24 _ _ (by rfl) k2.heap.size (by rfl) _ (by rfl) (keyL 0 0) rfl 24 _ kY4 (show (2 : Nat) = 2 from rfl) _ sizeKey (by rfl) (by simp [Value.oneCell']) ?_; intro k5 kY5 kt5 kr5)))
  have J5' := (((Jk.below kq2 lk).below kq3 (by omega)).but kr4 (by omega)).but kr5 (by omega)
  have B5' := (((Bk.trans (kq2.mono Bk.size)).trans (kq3.mono (by have := Bk.size; omega))).trans (kr4.below (by have := Bk.size; omega) (by omega))).trans (kr5.below (by have := Bk.size; omega) (by omega))
  have hge := gen_ok w.heap.size 5 1 2 k5 J5'
  with_reducible refine hge.mono ?_
  rintro e _ ⟨rfl, rfl⟩
  go_wp2_with fail
  go_ret
  exact ⟨rfl, B5'⟩
end Go.Proofs.YtkgpeddncpdjjaaDoor
