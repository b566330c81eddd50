/- AssocRuns (P31.1 to P31.4): for every input the law returns true, and its arguments read afterwards as before. No condition. -/
import Derived.Test.YtickoncgnjgciaaAsP2
import Derived.Test.YtickoncgnjgciaaAsI
namespace Go.Proofs.Ytickoncgnjgciaa
open Go.ChangeShapes Go.WideShapes Go.ChangeAt Go.RowKit Go.Joins
set_option linter.unusedSimpArgs false
set_option linter.unusedVariables false
theorem two_cells {w : World} {a b : Addr} {x : Int} (h : w.cell? a = some (.int .i64 x)) (h' : w.cell? b = some (.int .i64 x)) : ∃ X : Int, w.cell? a = some (.int .i64 X) ∧ w.cell? b = some (.int .i64 X) := ⟨x, h, h'⟩
/-- what both Sends return and leave -/
theorem send_both (g g' : Nat) (ver t1 nc : Int) (pd : Bool) (lx c0 c1 c2 c3 c4 c5 c6 c7 now n : Int) (hI : nc = 0 → t1 = 0) :
    ∃ (x1 x2 x12 E t1' nc' : Int) (pd' : Bool), (nc' = 0 → t1' = 0) ∧
      (∀ W, Blk W g 57 (asL ver t1 nc pd lx c0 c1 c2 c3 c4 c5 c6 c7) → Calls Try.prog 12 #[.pointer (some ⟨g, 0, none⟩), .int .i64 now, .int .u64 n] W fun e w' => e = .returned (.tuple #[ntp 0 x1 x2 0 0 0 0 0 0 0 0 0 x12, .int .i64 E]) ∧ Blk w' g 57 (asL ver t1' nc' pd' lx c0 c1 c2 c3 c4 c5 c6 c7) ∧ But g W w') ∧
      (∀ W, Blk W g' 59 (raL ver (!decide (nc = 0)) pd t1 nc lx c0 c1 c2 c3 c4 c5 c6 c7) → Calls Try.prog 13 #[.pointer (some ⟨g', 0, none⟩), .int .i64 now, .int .u64 n] W fun e w' => e = .returned (.tuple #[ntp 0 x1 x2 0 0 0 0 0 0 0 0 0 x12, .int .i64 E]) ∧ Blk w' g' 59 (raL ver (!decide (nc' = 0)) pd' t1' nc' lx c0 c1 c2 c3 c4 c5 c6 c7) ∧ But g' W w') := by
  by_cases hE : sendE now n nc = 0
  · have hn : n ≠ 0 := by
      rcases sendE_cases now n nc with ⟨_, h⟩ | ⟨_, _, h⟩ | ⟨_, _, _, h⟩ | ⟨_, a, b, _⟩ <;> first | omega | exact a
    refine ⟨ver, 3, n, 0, now, n, true, fun h => absurd h hn, fun W HW => send_ok g ver t1 nc pd lx c0 c1 c2 c3 c4 c5 c6 c7 now n W HW hE, fun W HW => ?_⟩
    have := rsend_ok g' ver t1 nc _ pd lx c0 c1 c2 c3 c4 c5 c6 c7 now n W HW hE
    rwa [show (!decide (n = 0)) = true by simp [hn]]
  · refine ⟨0, 0, 0, sendE now n nc, t1, nc, pd, hI, fun W HW => ?_, fun W HW => ?_⟩
    · exact (send_err g ver t1 nc pd lx c0 c1 c2 c3 c4 c5 c6 c7 now n W HW hE).mono fun e w' ⟨h1, h2⟩ => ⟨h1, HW.below h2 HW.lt, (But.refl g W).then h2 (Nat.le_refl _)⟩
    · exact (rsend_err g' ver t1 nc _ pd lx c0 c1 c2 c3 c4 c5 c6 c7 now n W HW rfl hE).mono fun e w' ⟨h1, h2⟩ => ⟨h1, HW.below h2 HW.lt, (But.refl g' W).then h2 (Nat.le_refl _)⟩
/-- what both Receives return and leave -/
theorem recv_both (g g' : Nat) (ver t1 nc : Int) (pd : Bool) (lx c0 c1 c2 c3 c4 c5 c6 c7 now l v mo st po pr rd rp id ref org rec xmt : Int) (hI : nc = 0 → t1 = 0) (hid : 0 ≤ id ∧ id ≤ 4294967295) (hc0 : CB c0) (hc1 : CB c1) (hc2 : CB c2) (hc3 : CB c3) (hc4 : CB c4) (hc5 : CB c5) (hc6 : CB c6) (hc7 : CB c7) :
    ∃ (K : Int) (s : ByteArray) (qa qb qd qe : Int) (pd' : Bool) (lx' : Int),
      (∀ W, Blk W g 57 (asL ver t1 nc pd lx c0 c1 c2 c3 c4 c5 c6 c7) → Calls Try.prog 14 #[.pointer (some ⟨g, 0, none⟩), ntp l v mo st po pr rd rp id ref org rec xmt, .int .i64 now] W fun e w' => e = .returned (.agg (hdL K s qa qb qd qe).toArray) ∧ Blk w' g 57 (asL ver t1 nc pd' lx' (incK K 0 c0) (incK K 1 c1) (incK K 2 c2) (incK K 3 c3) (incK K 4 c4) (incK K 5 c5) (incK K 6 c6) (incK K 7 c7)) ∧ But g W w') ∧
      (∀ W, Blk W g' 59 (raL ver (!decide (nc = 0)) pd t1 nc lx c0 c1 c2 c3 c4 c5 c6 c7) → Calls Try.prog 15 #[.pointer (some ⟨g', 0, none⟩), ntp l v mo st po pr rd rp id ref org rec xmt, .int .i64 now] W fun e w' => e = .returned (.agg (hdL K s qa qb qd qe).toArray) ∧ Blk w' g' 59 (raL ver (!decide (nc = 0)) pd' t1 nc lx' (incK K 0 c0) (incK K 1 c1) (incK K 2 c2) (incK K 3 c3) (incK K 4 c4) (incK K 5 c5) (incK K 6 c6) (incK K 7 c7)) ∧ But g' W w') :=
  ⟨_, _, _, _, _, _, _, _, fun W HW => receive_any g ver t1 nc pd lx c0 c1 c2 c3 c4 c5 c6 c7 now l v mo st po pr rd rp id ref org rec xmt _ _ W HW hI hid hc0 hc1 hc2 hc3 hc4 hc5 hc6 hc7 rfl rfl,
    fun W HW => rreceive_any g' ver t1 nc _ pd lx c0 c1 c2 c3 c4 c5 c6 c7 now l v mo st po pr rd rp id ref org rec xmt _ _ W HW hI rfl hid hc0 hc1 hc2 hc3 hc4 hc5 hc6 hc7 rfl rfl⟩
/-- the state of the law's loop -/
def RunsR (w0 : World) (g g' : Nat) (ver : Int) (k : Nat) (wr : World) : Prop :=
  ∃ (t1 nc : Int) (pd : Bool) (lx c0 c1 c2 c3 c4 c5 c6 c7 : Int), Blk wr g 57 (asL ver t1 nc pd lx c0 c1 c2 c3 c4 c5 c6 c7) ∧ Blk wr g' 59 (raL ver (!decide (nc = 0)) pd t1 nc lx c0 c1 c2 c3 c4 c5 c6 c7) ∧ (nc = 0 → t1 = 0) ∧ CK k c0 c1 c2 c3 c4 c5 c6 c7 ∧ Below w0.heap.size w0 wr
set_option maxRecDepth 100000 in
set_option maxHeartbeats 60000000 in
theorem runs_main (ver : Int) (A : Option Addr) (m c : Nat) (F : Nat → List Value) (w : World) (h1 : 1 ≤ ver) (h4 : ver ≤ 4) (hm : m ≤ 60) (hS : Sl w w.heap.size A m 16 F) (hmc : m ≤ c) (hF : ∀ k, k < m → OpP (F k)) :
    Calls Try.prog 3 #[.int .i64 ver, .slice A m c] w fun e w' => e = .returned (.bool true) ∧ Below w.heap.size w w' := by
  have hm' : (m : Int) ≤ 60 := by omega
  have hf := Lib.hid hF
  clear hF
  go_enter Try.func3, Try.ntmps3
  go_wp2_with (first
    | (go_at_call 9; ((with_reducible refine (new_ok ver _ h1 h4).mono ?_); rintro e w1 ⟨rfl, H1, b1⟩))
    | (go_at_call 10; ((with_reducible refine (rnew_ok ver _ h1 h4).mono ?_); rintro e w2 ⟨rfl, R2, b2⟩)))
  have z1 := H1.lt
  have H2 := H1.below b2 z1
  have B2 := b1.trans (b2.mono b1.size)
  clear H1 b1 b2
  go_loopw [7] (fun i wr => ∃ k : Nat, k ≤ m ∧ i = .int .i64 k ∧ RunsR w w.heap.size w1.heap.size ver k wr) (fun i _ => m - (intOf i).toNat)
  case atStart => exact ⟨0, by omega, rfl, 0, 0, false, 0, 0, 0, 0, 0, 0, 0, 0, 0, H2, R2, fun _ => rfl, by unfold CK; omega, B2⟩
  case round =>
    obtain ⟨k, hk, rfl, t1, nc, pd, lx, c0, c1, c2, c3, c4, c5, c6, c7, HR, HQ, hI, hc, hB⟩ := hrel
    clear H2 R2 B2
    by_cases hlt : k < m
    · obtain ⟨b, o, rfl, hbw, hx⟩ := (hS.below hB (Nat.le_refl _)) (by omega)
      obtain ⟨_, hr⟩ := hx k hlt
      obtain ⟨q, now, n, l, v, mo, st, po, pr, rd, rp, id, ref, org, rec, xmt, hq, hid⟩ := hf.out k hlt
      rw [hq] at hr
      have q0 : wr.cell? ⟨b, o + k * 16, none⟩ = some (.int .i64 q) := by simpa using range_cell hr 0 rfl
      have hi0 : (0 : Int) ≤ k := by omega
      have hi1 : (k : Int) < m := by omega
      have zr := HQ.lt
      clear hx hq
      by_cases hq0 : q = 0
      · have d0 : (q == 0) = true := by simpa using hq0
        have q1 : Kc wr [w.heap.size] b (o + k * 16 + 1) (.int .i64 now) := ⟨range_cell hr 1 rfl, by simp; omega⟩
        have q2 : Kc wr [w.heap.size] b (o + k * 16 + 2) (.int .u64 n) := ⟨range_cell hr 2 rfl, by simp; omega⟩
        have HRd := HR.drew
        obtain ⟨x1, x2, x12, E, t1', nc', pd', hI', hSc, hSr⟩ := send_both w.heap.size w1.heap.size ver t1 nc pd lx c0 c1 c2 c3 c4 c5 c6 c7 now n hI
        clear hq0 hr hI
        go_wp2_with fail
        go_region_held3 (fun w' => w'.cell? ⟨b, o + k * 16 + 1, none⟩ = some (.int .i64 now) ∧ w'.cell? ⟨b, o + k * 16 + 2, none⟩ = some (.int .u64 n) ∧ Kp wr [w.heap.size] w') (((try go_split_ands); (with_reducible refine kp2 ?_ q1 q2); (repeat (with_reducible first | (refine Kp.set ?_ ?_; rotate_left; (with_reducible first | exact Or.inl (Nat.le_refl _) | exact Or.inr (List.mem_cons_self ..) | (refine Or.inl ?_; assumption) | (refine Or.inl (Kp.size ?_); assumption))) | refine Kp.drew ?_ | refine Kp.alloc _ ?_ | assumption | exact Kp.refl _ _ | exact Kp.belowS hb (by assumption) | exact Kp.but hg (by assumption) (Or.inr (List.mem_cons_self ..)))))) (first
          | (go_at_call 12; ((with_reducible refine (hSc _ (by first | assumption | exact Blk.drew (Blk.old HR) | exact Blk.old HRd)).mono ?_); rintro e' w3 ⟨rfl, H3, hg⟩; (have hKn : Kp wr [w.heap.size] w3 := by (go_split_ands; exact Kp.but hg (by assumption) (.inr (List.mem_cons_self ..)))); (have hz := Kp.size hKn); (first | (have KB : Blk _ _ 31 zN := blk_firstBD hg (by omega); obtain ⟨k0, k1, k2, k3, k4, k5, k6, k7, k8, k9, k10, k11, k12⟩ := cells13 KB; have kf := KB.frozen) | skip))))
        all_goals
          first
            | (obtain ⟨W, hW, J, HF, KF⟩ := set13_all (v0 := .int .i64 0) (v1 := .int .i64 x1) (v2 := .int .i64 x2) (v3 := .int .i64 0) (v4 := .int .i64 0) (v5 := .int .i64 0) (v6 := .int .u32 0) (v7 := .int .u32 0) (v8 := .int .u32 0) (v9 := .int .u64 0) (v10 := .int .u64 0) (v11 := .int .u64 0) (v12 := .int .u64 x12) KB H3 hKn (Nat.le_refl _) (by omega); rw [hW]; (have hBB : w1.heap.size < (wr).heap.size := by omega); generalize (wr).heap.size = BB at J hBB ⊢; clear k0 k1 k2 k3 k4 k5 k6 k7 k8 k9 k10 k11 k12 kf KB)
            | (obtain ⟨W, hW, J, HF, KF⟩ := alloc_all (t := 31) (C := #[.int .i64 0, .int .i64 x1, .int .i64 x2, .int .i64 0, .int .i64 0, .int .i64 0, .int .u32 0, .int .u32 0, .int .u32 0, .int .u64 0, .int .u64 0, .int .u64 0, .int .u64 x12]) (L := [.int .i64 0, .int .i64 x1, .int .i64 x2, .int .i64 0, .int .i64 0, .int .i64 0, .int .u32 0, .int .u32 0, .int .u32 0, .int .u64 0, .int .u64 0, .int .u64 0, .int .u64 x12]) rfl H3 hKn; rw [hW]; (have hBB : w1.heap.size < (w3).heap.size := by omega); generalize (w3).heap.size = BB at J hBB ⊢)
          have BW := KF.toBelow hB hB.size (by intro g hg; simp at hg; omega)
          have HQ4 := KF.blk HQ (by simp; omega)
          have p1 : Kc W [w1.heap.size] b (o + k * 16 + 1) (.int .i64 now) := ⟨kp_cell KF q1, by simp; omega⟩
          have p2 : Kc W [w1.heap.size] b (o + k * 16 + 2) (.int .u64 n) := ⟨kp_cell KF q2, by simp; omega⟩
          have zW := KF.size
          have HQd := HQ4.drew
          clear KF q1 q2 HR HRd hW H3 hKn hg hSc hz HQ
          go_wp2_with fail
          go_region_held3 (fun w' => w'.cell? ⟨b, o + k * 16 + 1, none⟩ = some (.int .i64 now) ∧ w'.cell? ⟨b, o + k * 16 + 2, none⟩ = some (.int .u64 n) ∧ Kp W [w1.heap.size] w') (((try go_split_ands); (with_reducible refine kp2 ?_ p1 p2); (repeat (with_reducible first | (refine Kp.set ?_ ?_; rotate_left; (with_reducible first | exact Or.inl (Nat.le_refl _) | exact Or.inr (List.mem_cons_self ..) | (refine Or.inl ?_; assumption) | (refine Or.inl (Kp.size ?_); assumption))) | refine Kp.drew ?_ | refine Kp.alloc _ ?_ | assumption | exact Kp.refl _ _ | exact Kp.belowS hb (by assumption) | exact Kp.but hg (by assumption) (Or.inr (List.mem_cons_self ..)))))) (first
            | (go_at_call 13; ((with_reducible refine (hSr _ (by first | assumption | exact Blk.drew (Blk.old HQ4) | exact Blk.old HQd)).mono ?_); rintro e' w5 ⟨rfl, H5, hg⟩; (have hKn : Kp W [w1.heap.size] w5 := by (go_split_ands; exact Kp.but hg (by assumption) (.inr (List.mem_cons_self ..)))); (have hz := Kp.size hKn); (first | (have KB : Blk _ _ 31 zN := blk_firstBD hg (by omega); obtain ⟨k0, k1, k2, k3, k4, k5, k6, k7, k8, k9, k10, k11, k12⟩ := cells13 KB; have kf := KB.frozen) | skip))))
          all_goals
            first
              | (obtain ⟨V, hW, J2, HS6, KV⟩ := set13_all (v0 := .int .i64 0) (v1 := .int .i64 x1) (v2 := .int .i64 x2) (v3 := .int .i64 0) (v4 := .int .i64 0) (v5 := .int .i64 0) (v6 := .int .u32 0) (v7 := .int .u32 0) (v8 := .int .u32 0) (v9 := .int .u64 0) (v10 := .int .u64 0) (v11 := .int .u64 0) (v12 := .int .u64 x12) KB H5 hKn (Nat.le_refl _) (by omega); rw [hW]; (have hBC : w1.heap.size < (W).heap.size := by omega); generalize (W).heap.size = BC at J2 hBC ⊢; clear k0 k1 k2 k3 k4 k5 k6 k7 k8 k9 k10 k11 k12 kf KB)
              | (obtain ⟨V, hW, J2, HS6, KV⟩ := alloc_all (t := 31) (C := #[.int .i64 0, .int .i64 x1, .int .i64 x2, .int .i64 0, .int .i64 0, .int .i64 0, .int .u32 0, .int .u32 0, .int .u32 0, .int .u64 0, .int .u64 0, .int .u64 0, .int .u64 x12]) (L := [.int .i64 0, .int .i64 x1, .int .i64 x2, .int .i64 0, .int .i64 0, .int .i64 0, .int .u32 0, .int .u32 0, .int .u32 0, .int .u64 0, .int .u64 0, .int .u64 0, .int .u64 x12]) rfl H5 hKn; rw [hW]; (have hBC : w1.heap.size < (w5).heap.size := by omega); generalize (w5).heap.size = BC at J2 hBC ⊢)
            have B6 := KV.toBelow BW BW.size (by intro g hg; simp at hg; omega)
            have HA6 := KV.blk HF (by simp; omega)
            have J1 := KV.blk J (by simp; omega)
            clear KV p1 p2 HQ4 HQd hW H5 hKn hg hSr hz HF J BW
            go_wp2_with (first
              | (refine wpl_load (by rfl) 31 _ (by rfl) BB (by rfl) 31 _ J1 _ Try.underlying31 rfl _ sizeNtp (by rfl) ?_)
              | (refine wpl_load (by rfl) 31 _ (by rfl) BC (by rfl) 31 _ J2 _ Try.underlying31 rfl _ sizeNtp (by rfl) ?_))
            clear J1 J2 hBB hBC
            as_aux_lemma =>
              go_wp2_with (first
                | (go_at_call 16; ((with_reducible refine (counts_any _ _ _ _ _ _ _ _ _ _ _ _ _ _ _ HA6).mono ?_); rintro e' w7 ⟨b7, cp7, rfl, hrow7, _, hlt7, hcp7, hb7⟩; (have HA7 := HA6.below hb7 HA6.lt); (have HS7 := HS6.below hb7 HS6.lt)))
                | (go_at_call 17; ((with_reducible refine (rcounts_any _ _ _ _ _ _ _ _ _ _ _ _ _ _ _ _ HS7).mono ?_); rintro e' w8 ⟨b8, cp8, rfl, hrow8, _, hlt8, hcp8, hb8⟩; (have HA8 := HA7.below hb8 HA7.lt); (have HS8 := HS7.below hb8 HS7.lt); (have hrow7' := hrow7.below hb8 hlt7)))
                | (go_at_call 18; ((with_reducible refine (pending_any _ _ _ _ _ _ _ _ _ _ _ _ _ _ _ HA8).mono ?_); rintro e w1 ⟨rfl, rfl⟩))
                | (go_at_call 19; ((with_reducible refine (rpending_any _ _ _ _ _ _ _ _ _ _ _ _ _ _ _ _ HS8).mono ?_); rintro e w1 ⟨rfl, rfl⟩)))
              have B8 := (B6.trans (hb7.mono B6.size)).trans (hb8.mono (Nat.le_trans B6.size hb7.size))
              have z78 : b7 < w8.heap.size := Nat.lt_of_lt_of_le hlt7 hb8.size
              have r7 := row_cells hrow7'
              have r8 := row_cells hrow8
              have hcp7' : (8 : Int) ≤ cp7 := by omega
              have hcp8' : (8 : Int) ≤ cp8 := by omega
              clear HA6 HS6 HA7 HS7 hrow7 hrow7' hrow8 hb7 hb8 B6
              go_loopw [14] (fun i wz => ∃ j : Nat, j ≤ 8 ∧ i = .int .i64 j ∧ Below w8.heap.size w8 wz) (fun i _ => 8 - (intOf i).toNat)
              case atStart => exact ⟨0, by omega, rfl, Below.refl _ _⟩
              case round =>
                obtain ⟨j, hj, rfl, hbj⟩ := hrel
                by_cases hjlt : j < 8
                · have e7 := kept_cell hbj (r7 j hjlt) z78
                  have e8 := kept_cell hbj (r8 j hjlt) hlt8
                  obtain ⟨X, e7, e8⟩ := two_cells e7 e8
                  clear r7 r8
                  have hj0 : (0 : Int) ≤ j := by omega
                  have hj8 : (j : Int) < 8 := by omega
                  go_wp2_with fail
                  go_region_held3 (fun w' => w'.cell? ⟨b7, j, none⟩ = some (.int .i64 X) ∧ w'.cell? ⟨b8, j, none⟩ = some (.int .i64 X)) (exact ⟨e7, e8⟩) (fail)
                  go_wp2_with fail
                  exact ⟨⟨j + 1, by omega, by go_num, hbj.drew⟩, by simp [intOf]; omega⟩
                · obtain rfl : j = 8 := by omega
                  go_wp2_with fail
                  exact ⟨⟨k + 1, by omega, by go_num, t1', nc', pd', lx, c0, c1, c2, c3, c4, c5, c6, c7, HA8.below hbj HA8.lt, HS8.below hbj HS8.lt, hI', hc.succ, B8.trans (hbj.mono B8.size)⟩, by simp [intOf]; omega⟩
      · as_aux_lemma =>
        have d0 : (q == 0) = false := by simpa using hq0
        obtain ⟨cb0, cb1, cb2, cb3, cb4, cb5, cb6, cb7⟩ := hc.cb (by omega)
        obtain ⟨K, s, qa, qb, qd, qe, pd', lx', hRc, hRr⟩ := recv_both w.heap.size w1.heap.size ver t1 nc pd lx c0 c1 c2 c3 c4 c5 c6 c7 now l v mo st po pr rd rp id ref org rec xmt hI hid cb0 cb1 cb2 cb3 cb4 cb5 cb6 cb7
        have hcI := hc.inc (K := K)
        have hbg : b ∉ [w.heap.size, w1.heap.size] := by simp; omega
        clear hq0 cb0 cb1 cb2 cb3 cb4 cb5 cb6 cb7 hid
        have p1 : Kc wr [w.heap.size, w1.heap.size] b (o + k * 16 + 1) (.int .i64 now) := ⟨range_cell hr 1 rfl, hbg⟩
        have hrP := range_mid hr 3 [.int .i64 l, .int .i64 v, .int .i64 mo, .int .i64 st, .int .i64 po, .int .i64 pr, .int .u32 rd, .int .u32 rp, .int .u32 id, .int .u64 ref, .int .u64 org, .int .u64 rec, .int .u64 xmt] rfl
        have q3 : Kc wr [w.heap.size, w1.heap.size] b (o + k * 16 + 3) (.int .i64 l) := ⟨by simpa using range_cell hrP 0 rfl, hbg⟩
        have q4 : Kc wr [w.heap.size, w1.heap.size] b (o + k * 16 + 3 + 1) (.int .i64 v) := ⟨range_cell hrP 1 rfl, hbg⟩
        have q5 : Kc wr [w.heap.size, w1.heap.size] b (o + k * 16 + 3 + 2) (.int .i64 mo) := ⟨range_cell hrP 2 rfl, hbg⟩
        have q6 : Kc wr [w.heap.size, w1.heap.size] b (o + k * 16 + 3 + 3) (.int .i64 st) := ⟨range_cell hrP 3 rfl, hbg⟩
        have q7 : Kc wr [w.heap.size, w1.heap.size] b (o + k * 16 + 3 + 4) (.int .i64 po) := ⟨range_cell hrP 4 rfl, hbg⟩
        have q8 : Kc wr [w.heap.size, w1.heap.size] b (o + k * 16 + 3 + 5) (.int .i64 pr) := ⟨range_cell hrP 5 rfl, hbg⟩
        have q9 : Kc wr [w.heap.size, w1.heap.size] b (o + k * 16 + 3 + 6) (.int .u32 rd) := ⟨range_cell hrP 6 rfl, hbg⟩
        have q10 : Kc wr [w.heap.size, w1.heap.size] b (o + k * 16 + 3 + 7) (.int .u32 rp) := ⟨range_cell hrP 7 rfl, hbg⟩
        have q11 : Kc wr [w.heap.size, w1.heap.size] b (o + k * 16 + 3 + 8) (.int .u32 id) := ⟨range_cell hrP 8 rfl, hbg⟩
        have q12 : Kc wr [w.heap.size, w1.heap.size] b (o + k * 16 + 3 + 9) (.int .u64 ref) := ⟨range_cell hrP 9 rfl, hbg⟩
        have q13 : Kc wr [w.heap.size, w1.heap.size] b (o + k * 16 + 3 + 10) (.int .u64 org) := ⟨range_cell hrP 10 rfl, hbg⟩
        have q14 : Kc wr [w.heap.size, w1.heap.size] b (o + k * 16 + 3 + 11) (.int .u64 rec) := ⟨range_cell hrP 11 rfl, hbg⟩
        have q15 : Kc wr [w.heap.size, w1.heap.size] b (o + k * 16 + 3 + 12) (.int .u64 xmt) := ⟨range_cell hrP 12 rfl, hbg⟩
        have HRd := HR.drew
        have HQd := HQ.drew
        clear hr hrP hbg
        go_wp2_with fail
        go_region_held3 (fun w' => w'.cell? ⟨b, o + k * 16 + 1, none⟩ = some (.int .i64 now) ∧ w'.cell? ⟨b, o + k * 16 + 3, none⟩ = some (.int .i64 l) ∧ w'.cell? ⟨b, o + k * 16 + 3 + 1, none⟩ = some (.int .i64 v) ∧ w'.cell? ⟨b, o + k * 16 + 3 + 2, none⟩ = some (.int .i64 mo) ∧ w'.cell? ⟨b, o + k * 16 + 3 + 3, none⟩ = some (.int .i64 st) ∧ w'.cell? ⟨b, o + k * 16 + 3 + 4, none⟩ = some (.int .i64 po) ∧ w'.cell? ⟨b, o + k * 16 + 3 + 5, none⟩ = some (.int .i64 pr) ∧ w'.cell? ⟨b, o + k * 16 + 3 + 6, none⟩ = some (.int .u32 rd) ∧ w'.cell? ⟨b, o + k * 16 + 3 + 7, none⟩ = some (.int .u32 rp) ∧ w'.cell? ⟨b, o + k * 16 + 3 + 8, none⟩ = some (.int .u32 id) ∧ w'.cell? ⟨b, o + k * 16 + 3 + 9, none⟩ = some (.int .u64 ref) ∧ w'.cell? ⟨b, o + k * 16 + 3 + 10, none⟩ = some (.int .u64 org) ∧ w'.cell? ⟨b, o + k * 16 + 3 + 11, none⟩ = some (.int .u64 rec) ∧ w'.cell? ⟨b, o + k * 16 + 3 + 12, none⟩ = some (.int .u64 xmt) ∧ Kp wr [w.heap.size, w1.heap.size] w') (((try go_split_ands); (with_reducible refine kp14 ?_ p1 q3 q4 q5 q6 q7 q8 q9 q10 q11 q12 q13 q14 q15); (repeat (with_reducible first | (refine Kp.set ?_ ?_; rotate_left; (with_reducible first | exact Or.inl (Nat.le_refl _) | exact Or.inr (List.mem_cons_self ..) | (refine Or.inl ?_; assumption) | (refine Or.inl (Kp.size ?_); assumption))) | refine Kp.drew ?_ | refine Kp.alloc _ ?_ | assumption | exact Kp.refl _ _ | exact Kp.belowS hb (by assumption) | exact Kp.but hg (by assumption) (Or.inr (List.mem_cons_self ..)))))) (first
          | (go_at_call 14; ((with_reducible refine (hRc _ HRd).mono ?_); rintro e' w3 ⟨rfl, H3, hg⟩; (have hKn : Kp wr [w.heap.size, w1.heap.size] w3 := by (go_split_ands; exact Kp.but hg (by assumption) (.inr (List.mem_cons_self ..)))); (have HQ3 := HQd.but hg (by omega))))
          | (go_at_call 15; ((with_reducible refine (hRr _ HQ3).mono ?_); rintro e' w6 ⟨rfl, HS6, hg2⟩; (have hKn2 : Kp wr [w.heap.size, w1.heap.size] w6 := Kp.but hg2 hKn (.inr (by simp))); (have HA6 := H3.but hg2 (by omega)))))
        have B6 := hKn2.toBelow hB hB.size (by intro g hg; simp at hg; omega)
        clear p1 q3 q4 q5 q6 q7 q8 q9 q10 q11 q12 q13 q14 q15 HRd HQd HR HQ hKn hKn2 H3 HQ3 hRc hRr hg hg2
        go_wp2_with (first
          | (go_at_call 16; ((with_reducible refine (counts_any _ _ _ _ _ _ _ _ _ _ _ _ _ _ _ HA6).mono ?_); rintro e' w7 ⟨b7, cp7, rfl, hrow7, _, hlt7, hcp7, hb7⟩; (have HA7 := HA6.below hb7 HA6.lt); (have HS7 := HS6.below hb7 HS6.lt)))
          | (go_at_call 17; ((with_reducible refine (rcounts_any _ _ _ _ _ _ _ _ _ _ _ _ _ _ _ _ HS7).mono ?_); rintro e' w8 ⟨b8, cp8, rfl, hrow8, _, hlt8, hcp8, hb8⟩; (have HA8 := HA7.below hb8 HA7.lt); (have HS8 := HS7.below hb8 HS7.lt); (have hrow7' := hrow7.below hb8 hlt7)))
          | (go_at_call 18; ((with_reducible refine (pending_any _ _ _ _ _ _ _ _ _ _ _ _ _ _ _ HA8).mono ?_); rintro e w1 ⟨rfl, rfl⟩))
          | (go_at_call 19; ((with_reducible refine (rpending_any _ _ _ _ _ _ _ _ _ _ _ _ _ _ _ _ HS8).mono ?_); rintro e w1 ⟨rfl, rfl⟩)))
        have B8 := (B6.trans (hb7.mono B6.size)).trans (hb8.mono (Nat.le_trans B6.size hb7.size))
        have z78 : b7 < w8.heap.size := Nat.lt_of_lt_of_le hlt7 hb8.size
        have r7 := row_cells hrow7'
        have r8 := row_cells hrow8
        have hcp7' : (8 : Int) ≤ cp7 := by omega
        have hcp8' : (8 : Int) ≤ cp8 := by omega
        clear HA6 HS6 HA7 HS7 hrow7 hrow7' hrow8 hb7 hb8 B6
        go_loopw [14] (fun i wz => ∃ j : Nat, j ≤ 8 ∧ i = .int .i64 j ∧ Below w8.heap.size w8 wz) (fun i _ => 8 - (intOf i).toNat)
        case atStart => exact ⟨0, by omega, rfl, Below.refl _ _⟩
        case round =>
          obtain ⟨j, hj, rfl, hbj⟩ := hrel
          by_cases hjlt : j < 8
          · have e7 := kept_cell hbj (r7 j hjlt) z78
            have e8 := kept_cell hbj (r8 j hjlt) hlt8
            obtain ⟨X, e7, e8⟩ := two_cells e7 e8
            clear r7 r8
            have hj0 : (0 : Int) ≤ j := by omega
            have hj8 : (j : Int) < 8 := by omega
            go_wp2_with fail
            go_region_held3 (fun w' => w'.cell? ⟨b7, j, none⟩ = some (.int .i64 X) ∧ w'.cell? ⟨b8, j, none⟩ = some (.int .i64 X)) (exact ⟨e7, e8⟩) (fail)
            go_wp2_with fail
            exact ⟨⟨j + 1, by omega, by go_num, hbj.drew⟩, by simp [intOf]; omega⟩
          · obtain rfl : j = 8 := by omega
            go_wp2_with fail
            exact ⟨⟨k + 1, by omega, by go_num, t1, nc, pd', lx', _, _, _, _, _, _, _, _, HA8.below hbj HA8.lt, HS8.below hbj HS8.lt, hI, hcI, B8.trans (hbj.mono B8.size)⟩, by simp [intOf]; omega⟩
    · obtain rfl : k = m := by omega
      have hE := awake_any wr
      go_wp2_with fail
      with_reducible refine hE.mono ?_
      rintro e w9 ⟨rfl, hb9⟩
      have B9 := hB.trans (hb9.mono hB.size)
      go_wp2
      go_ret
      exact ⟨rfl, B9⟩
end Go.Proofs.Ytickoncgnjgciaa
