/- What the reference's Decode computes. -/
import Derived.Test.YthhdbpdgppppiaaNtp5
import Derived.Test.YthhdbpdgppppiaaStep
import Derived.Test.YthhdbpdgppppiaaKp
import Derived.Test.YthhdbpdgppppiaaHeld
import Derived.Test.YthhdbpdgppppiaaNtpT
import Derived.Test.YthhdbpdgppppiaaDet
import Derived.Test.YthhdbpdgppppiaaRes
import Derived.Test.YthhdbpdgppppiaaAppG
namespace Go.Proofs.Ythhdbpdgppppiaa
open Go.RowKit
set_option linter.unusedSimpArgs false
set_option linter.unusedVariables false
theorem al_cell {w : World} {p : Addr} {v : Value} {o : Obj} (h : w.cell? p = some v) : (w.alloc o).cell? p = some v := (World.cell?_alloc_lt w o _ (World.block_lt_of_cell? w _ h)).trans h
theorem al_frozen {w : World} {b : Nat} {o : Obj} (hlt : b < w.heap.size) (h : ∀ o', w.frozen? ⟨b, o', none⟩ = false) : ∀ o', (w.alloc o).frozen? ⟨b, o', none⟩ = false := fun o' => (World.frozen?_of_block (heap_alloc_old w o hlt)).trans (h o')
theorem sz_drew {w : World} {N : Nat} (h : N < w.heap.size) : N < w.drew.heap.size := h
theorem sz_alloc {w : World} {N : Nat} {o : Obj} (h : N < w.heap.size) : N < (w.alloc o).heap.size := by simp; omega
theorem sz_set {w : World} {N : Nat} {p : Addr} {u : Value} (h : N < w.heap.size) : N < (w.setCell p u).heap.size := by simpa [World.setCell] using h
theorem sz_set13 {w : World} {N b : Nat} {v0 v1 v2 v3 v4 v5 v6 v7 v8 v9 v10 v11 v12 : Value} (h : N < w.heap.size) : N < (((((((((((((w.setCell ⟨b, 0, none⟩ v0).setCell ⟨b, 1, none⟩ v1).setCell ⟨b, 2, none⟩ v2).setCell ⟨b, 3, none⟩ v3).setCell ⟨b, 4, none⟩ v4).setCell ⟨b, 5, none⟩ v5).setCell ⟨b, 6, none⟩ v6).setCell ⟨b, 7, none⟩ v7).setCell ⟨b, 8, none⟩ v8).setCell ⟨b, 9, none⟩ v9).setCell ⟨b, 10, none⟩ v10).setCell ⟨b, 11, none⟩ v11).setCell ⟨b, 12, none⟩ v12).heap.size :=
  sz_set (sz_set (sz_set (sz_set (sz_set (sz_set (sz_set (sz_set (sz_set (sz_set (sz_set (sz_set (sz_set h))))))))))))
theorem far13 {y : World} {b g : Nat} {t : TypeId} {v0 v1 v2 v3 v4 v5 v6 v7 v8 v9 v10 v11 v12 : Value} {cs : List Value} (h : Blk y g t cs) (hne : g ≠ b) : Blk (((((((((((((y.setCell ⟨b, 0, none⟩ v0).setCell ⟨b, 1, none⟩ v1).setCell ⟨b, 2, none⟩ v2).setCell ⟨b, 3, none⟩ v3).setCell ⟨b, 4, none⟩ v4).setCell ⟨b, 5, none⟩ v5).setCell ⟨b, 6, none⟩ v6).setCell ⟨b, 7, none⟩ v7).setCell ⟨b, 8, none⟩ v8).setCell ⟨b, 9, none⟩ v9).setCell ⟨b, 10, none⟩ v10).setCell ⟨b, 11, none⟩ v11).setCell ⟨b, 12, none⟩ v12) g t cs := (((((((((((((h.far hne).far hne).far hne).far hne).far hne).far hne).far hne).far hne).far hne).far hne).far hne).far hne).far hne)
theorem set13b {y : World} {b : Nat} {t : TypeId} {c0 c1 c2 c3 c4 c5 c6 c7 c8 c9 c10 c11 c12 v0 v1 v2 v3 v4 v5 v6 v7 v8 v9 v10 v11 v12 : Value} (h : Blk y b t [c0, c1, c2, c3, c4, c5, c6, c7, c8, c9, c10, c11, c12]) : Blk (((((((((((((y.setCell ⟨b, 0, none⟩ v0).setCell ⟨b, 1, none⟩ v1).setCell ⟨b, 2, none⟩ v2).setCell ⟨b, 3, none⟩ v3).setCell ⟨b, 4, none⟩ v4).setCell ⟨b, 5, none⟩ v5).setCell ⟨b, 6, none⟩ v6).setCell ⟨b, 7, none⟩ v7).setCell ⟨b, 8, none⟩ v8).setCell ⟨b, 9, none⟩ v9).setCell ⟨b, 10, none⟩ v10).setCell ⟨b, 11, none⟩ v11).setCell ⟨b, 12, none⟩ v12) b t [v0, v1, v2, v3, v4, v5, v6, v7, v8, v9, v10, v11, v12] := (((((((((((((h.set 0 v0).set 1 v1).set 2 v2).set 3 v3).set 4 v4).set 5 v5).set 6 v6).set 7 v7).set 8 v8).set 9 v9).set 10 v10).set 11 v11).set 12 v12)
theorem ow_empty {y : World} {lo g : Nat} (h : Blk y g 5 []) (hlo : lo ≤ g) : Ow y lo (some ⟨g, 0, none⟩) 0 [] :=
  ⟨Byt.nil, by simp, .inr ⟨g, 0, #[], rfl, hlo, h, Nat.zero_le _, by unfold maxLen; omega, by simp, by simp⟩⟩
/-- an empty slice literal -/
theorem wp_buildEmpty {o : Oper} {a : Act} {w : World} {K : Act → World → Prop} {Q : Exit → Act → World → Prop} (T : TypeId) (ho : o.op = .buildSlice T 0 #[]) (hT : Try.prog.underlying T = some (.slice 5))
    (h : K (a.put o.dst (.slice (some ⟨w.heap.size, 0, none⟩) 0 0)) (w.alloc (.cells #[] 5))) : o.wp Try.prog a w K Q := by
  have hi := infoU8
  have hr : (execOp a.eval o).run Try.prog w = .ok (.value (.slice (some ⟨w.heap.size, 0, none⟩) 0 0)) (w.alloc (.cells #[] 5)) := by
    unfold execOp
    simp only [ho]
    obtain ⟨i, hi0, hz, h1, h2⟩ := info_parts infoU8
    simp [Instr.buildSlice, run_underlying hT, sizeOf, typeInfo, zeroValue, hi0, hz, h1, newRow, Sem.run_bind]
    have hf : Instr.fill (fun i => some (i, 1)) (Array.map (fun x : Nat => (default : Value)) (Array.range 0)) [] = some #[] := by simp [Instr.fill]
    rw [hf]
    simp
  unfold Oper.wp
  rw [hr]
  exact h
theorem sizeU32 : (Try.prog.info? 22).map (·.size) = some 1 := by kernel_rfl
theorem sizeU64 : (Try.prog.info? 23).map (·.size) = some 1 := by kernel_rfl
set_option maxRecDepth 100000 in
set_option maxHeartbeats 1000000 in
theorem rdecode_short (A : Option Addr) (n c : Nat) (w : World) (hlt : n < 48) :
    Calls Try.prog 15 #[.slice A n c] w fun e w' => e = .returned (.tuple #[ntp 0 0 0 0 0 0 0 0 0 0 0 0 0, .slice none 0 0, .int .i64 5]) ∧ Below w.heap.size w w' := by
  have h48 : (n : Int) < 48 := by omega
  go_enter Try.func15, Try.ntmps15
  go_wp2
  refine bodyPost_ret (v := .tuple #[ntp 0 0 0 0 0 0 0 0 0 0 0 0 0, .slice none 0 0, .int .i64 5]) (by simp [results, Try.results15, go_sem, *]) rfl ⟨rfl, ?_⟩
  (repeat (first | assumption | exact Below.refl _ _ | refine Below.drew ?_ | refine below_drewN ?_ _ | refine Below.setCell ?_ (by first | omega | (simp; done) | (simp <;> omega)) _ | refine Below.alloc ?_ (by first | omega | (simp; done) | (simp <;> omega)) _ | refine Below.trans ?_ (Below.mono (by assumption) (by first | omega | (simp; done) | (simp <;> omega)))))
set_option maxRecDepth 100000 in
set_option maxHeartbeats 2000000 in
theorem rdecode_kind (A : Option Addr) (n c : Nat) (l : List Int) (w : World) (hn : l.length = n) (h : Bs w 0 w.heap.size A l) (h48 : 48 ≤ n) (F : Int) (hF : fB l 0 1 = F) (hv : ¬(1 ≤ F / 8 % 8 ∧ F / 8 % 8 ≤ 4)) :
    Calls Try.prog 15 #[.slice A n c] w fun e w' => e = .returned (.tuple #[ntp 0 0 0 0 0 0 0 0 0 0 0 0 0, .slice none 0 0, .int .i64 8]) ∧ Below w.heap.size w w' := by
  subst hn
  obtain ⟨b, o, rfl, _, hbw, hc'⟩ := h.at (by omega)
  have hbl := h.byt
  rw [fB_one hbl 0 (by omega)] at hF
  have hc0 : w.cell? ⟨b, o, none⟩ = some (.int .u8 (atB l 0)) := hc' 0 (by omega)
  have hFr := hbl.at 0
  rw [hF] at hc0 hFr
  have hF0 := hFr.1
  have hF1 := hFr.2
  have hwF : IntKind.i64.wrap F = F := by rw [IntKind.wrap_i64]; omega
  have h48' : (48 : Int) ≤ l.length := by omega
  have h0l : (0 : Int) < l.length := by omega
  clear hc'
  by_cases h1 : F / 8 % 8 < 1
  · have hq : F / 8 % 8 = 0 := by omega
    clear hv
    go_enter Try.func15, Try.ntmps15
    go_wp2
    refine bodyPost_ret (v := .tuple #[ntp 0 0 0 0 0 0 0 0 0 0 0 0 0, .slice none 0 0, .int .i64 8]) (by simp [results, Try.results15, go_sem, *]) rfl ⟨rfl, ?_⟩
    (repeat (first | assumption | exact Below.refl _ _ | refine Below.drew ?_ | refine below_drewN ?_ _ | refine Below.setCell ?_ (by first | omega | (simp; done) | (simp <;> omega)) _ | refine Below.alloc ?_ (by first | omega | (simp; done) | (simp <;> omega)) _ | refine Below.trans ?_ (Below.mono (by assumption) (by first | omega | (simp; done) | (simp <;> omega)))))
  · have h2 : 4 < F / 8 % 8 := by omega
    clear hv
    go_enter Try.func15, Try.ntmps15
    go_wp2
    refine bodyPost_ret (v := .tuple #[ntp 0 0 0 0 0 0 0 0 0 0 0 0 0, .slice none 0 0, .int .i64 8]) (by simp [results, Try.results15, go_sem, *]) rfl ⟨rfl, ?_⟩
    (repeat (first | assumption | exact Below.refl _ _ | refine Below.drew ?_ | refine below_drewN ?_ _ | refine Below.setCell ?_ (by first | omega | (simp; done) | (simp <;> omega)) _ | refine Below.alloc ?_ (by first | omega | (simp; done) | (simp <;> omega)) _ | refine Below.trans ?_ (Below.mono (by assumption) (by first | omega | (simp; done) | (simp <;> omega)))))
set_option maxRecDepth 100000 in
set_option maxHeartbeats 40000000 in
theorem rdecode_ok (A : Option Addr) (n c : Nat) (l : List Int) (w : World) (hn : l.length = n) (h : Bs w 0 w.heap.size A l) (hnc : n ≤ c) (h48 : 48 ≤ n) (hm : n ≤ 140737488351232) (F : Int) (hF : fB l 0 1 = F) (hv : 1 ≤ F / 8 % 8 ∧ F / 8 % 8 ≤ 4) :
    Calls Try.prog 15 #[.slice A n c] w fun e w' => ∃ A' c', e = .returned (.tuple #[ntp (F / 64) (F / 8 % 8) (F % 8) (fB l 1 1) (iB l 2 1) (iB l 3 1) (fB l 4 4) (fB l 8 4) (fB l 12 4) (fB l 16 8) (fB l 24 8) (fB l 32 8) (fB l 40 8), .slice A' (n - 48) c', .int .i64 0]) ∧ Ow w' w.heap.size A' c' (l.drop 48) ∧ Below w.heap.size w w' := by
  obtain ⟨b, o, rfl, _, hbw, hc'⟩ := h.at (by omega)
  have hbl := h.byt
  rw [fB_one hbl 0 (by omega)] at hF
  have hc0 : w.cell? ⟨b, o, none⟩ = some (.int .u8 (atB l 0)) := hc' 0 (by omega)
  have hc1 := hc' 1 (by omega)
  have hc2 := hc' 2 (by omega)
  have hc3 := hc' 3 (by omega)
  have hFr := hbl.at 0
  rw [hF] at hc0 hFr
  have hF0 := hFr.1
  have hF1 := hFr.2
  have hwF : IntKind.i64.wrap F = F := by rw [IntKind.wrap_i64]; omega
  have hv1 := hv.1
  have hv2 := hv.2
  have h48' : (48 : Int) ≤ n := by omega
  have hi0 : (0 : Int) < n := by omega
  have hi1 : (1 : Int) < n := by omega
  have hi2 : (2 : Int) < n := by omega
  have hi3 : (3 : Int) < n := by omega
  have hy1 := hbl.at 1
  have hy2 := hbl.at 2
  have hy3 := hbl.at 3
  have hw1 : IntKind.i64.wrap (atB l 1) = atB l 1 := by rw [IntKind.wrap_i64]; omega
  have hw1' : wrap64 (atB l 1) = atB l 1 := by unfold wrap64; omega
  have hwF' : wrap64 F = F := by unfold wrap64; omega
  have hq64 : IntKind.i64.wrap (F.tdiv 64) = F / 64 := by rw [Int.tdiv_eq_ediv_of_nonneg hF0, IntKind.wrap_i64]; omega
  have hq8 : F.tmod 8 = F % 8 := Int.tmod_eq_emod_of_nonneg hF0
  have r6 := fB_rng hbl 4 4
  have w6_ : IntKind.u32.wrap (fB l 4 4) = fB l 4 4 := by rw [IntKind.wrap_u32]; omega
  have r7 := fB_rng hbl 8 4
  have w7_ : IntKind.u32.wrap (fB l 8 4) = fB l 8 4 := by rw [IntKind.wrap_u32]; omega
  have r8 := fB_rng hbl 12 4
  have w8_ : IntKind.u32.wrap (fB l 12 4) = fB l 12 4 := by rw [IntKind.wrap_u32]; omega
  clear hc' hv
  have hsg2 := fun W => signed_any (atB l 2) W hy2.1 hy2.2
  have hsg3 := fun W => signed_any (atB l 3) W hy3.1 hy3.2
  rw [← iB_one hbl 2 (by omega)] at hsg2
  rw [← iB_one hbl 3 (by omega)] at hsg3
  rw [← fB_one hbl 1 (by omega)] at hw1 hw1' hy1 hc1
  clear hbl
  go_enter Try.func15, Try.ntmps15
  go_wp2_with ((refine wpl_alloc (by rfl) 25 (by rfl) (.agg (zN).toArray) (zN) zeroNtp rfl ?_; intro w1 R1 s1 b1); (have d0 := kept_cell b1 hc0 hbw))
  have q1 : Kc w1 [] b (o + 1) (.int .u8 (fB l 1 1)) := ⟨kept_cell b1 hc1 hbw, by simp⟩
  have q2 : Kc w1 [] b (o + 2) (.int .u8 (atB l 2)) := ⟨kept_cell b1 hc2 hbw, by simp⟩
  have q3 : Kc w1 [] b (o + 3) (.int .u8 (atB l 3)) := ⟨kept_cell b1 hc3 hbw, by simp⟩
  have hB1 := h.below b1 (Nat.le_refl _)
  clear hc0 hc1 hc2 hc3 h
  go_region_held3 (fun w' => w'.cell? ⟨b, o + 1, none⟩ = some (.int .u8 (fB l 1 1)) ∧ w'.cell? ⟨b, o + 2, none⟩ = some (.int .u8 (atB l 2)) ∧ w'.cell? ⟨b, o + 3, none⟩ = some (.int .u8 (atB l 3)) ∧ Kp w1 [] w') (((try go_split_ands); (with_reducible refine kp3 ?_ q1 q2 q3); (repeat (with_reducible first | (refine Kp.set ?_ ?_; rotate_left; (with_reducible first | exact Or.inl (Nat.le_refl _) | exact Or.inr (List.mem_cons_self ..) | (refine Or.inl ?_; assumption) | (refine Or.inl (Kp.size ?_); assumption))) | refine Kp.drew ?_ | refine Kp.alloc _ ?_ | assumption | exact Kp.refl _ _ | exact Kp.belowS hb (by assumption) | exact Kp.but hg (by assumption) (Or.inr (List.mem_cons_self ..)))))) (first
    | (go_at_call 29; ((with_reducible refine (hsg2 _).mono ?_); rintro e w1 ⟨rfl, rfl⟩))
    | (go_at_call 29; ((with_reducible refine (hsg3 _).mono ?_); rintro e w1 ⟨rfl, rfl⟩)))
  all_goals
    as_aux_lemma =>
      (try simp only [hq64, hq8])
      obtain ⟨w2, hW⟩ : ∃ W, (w1.alloc (.cells #[.int .i64 (F / 64), .int .i64 (F / 8 % 8), .int .i64 (F % 8), .int .i64 (fB l 1 1), .int .i64 (iB l 2 1), .int .i64 (iB l 3 1), .int .u32 0, .int .u32 0, .int .u32 0, .int .u64 0, .int .u64 0, .int .u64 0, .int .u64 0] 25)).drew = W := ⟨_, rfl⟩
      have J2 : Blk w2 w1.heap.size 25 [.int .i64 (F / 64), .int .i64 (F / 8 % 8), .int .i64 (F % 8), .int .i64 (fB l 1 1), .int .i64 (iB l 2 1), .int .i64 (iB l 3 1), .int .u32 0, .int .u32 0, .int .u32 0, .int .u64 0, .int .u64 0, .int .u64 0, .int .u64 0] := by rw [← hW]; exact (Blk.new w1 _ _ _ rfl).drew
      have K2 : Kp w1 [] w2 := by rw [← hW]; exact ((Kp.refl w1 []).alloc _).drew
      rw [hW]
      have R2 := K2.blk R1 (by simp)
      have B2 := K2.toBelow b1 (by omega) (by simp)
      have H2 := K2.bs hB1 (by omega) (by simp)
      have z2 := J2.lt
      clear hW K2 R1 b1 hB1 q1 q2 q3 hsg2 hsg3 d0
      have hE := rgetb_any (some ⟨b, o, none⟩) n c 0 w.heap.size l 4 4 4 4 w2 hn H2 rfl rfl (by omega) (by omega) (by omega)
      go_wp2_with fail
      with_reducible refine hE.mono ?_
      rintro e _ ⟨rfl, rfl⟩
      go_wp2_with (refine wpl_storeg (by rfl) 22 _ _ (by rfl) w1.heap.size 6 (by rfl) (.int .u32 (fB l 4 4)) (by rfl) (by rfl) (by simp [Value.oneCell']) _ _ [.int .i64 (F / 64), .int .i64 (F / 8 % 8), .int .i64 (F % 8), .int .i64 (fB l 1 1), .int .i64 (iB l 2 1), .int .i64 (iB l 3 1), .int .u32 (fB l 4 4), .int .u32 0, .int .u32 0, .int .u64 0, .int .u64 0, .int .u64 0, .int .u64 0] J2 (by simp) sizeU32 (by rfl) ?_; intro w3 J3 s3 g3)
      have R3 := R2.but g3 (by omega)
      have B3 := B2.trans (g3.below (by omega) (by omega))
      have H3 := H2.grown g3 (by omega) (by intro g hg; simp at hg; omega)
      have z3 := J3.lt
      clear hE J2 R2 B2 H2 g3
      have hE := rgetb_any (some ⟨b, o, none⟩) n c 0 w.heap.size l 8 4 8 4 w3 hn H3 rfl rfl (by omega) (by omega) (by omega)
      go_wp2_with fail
      with_reducible refine hE.mono ?_
      rintro e _ ⟨rfl, rfl⟩
      go_wp2_with (refine wpl_storeg (by rfl) 22 _ _ (by rfl) w1.heap.size 7 (by rfl) (.int .u32 (fB l 8 4)) (by rfl) (by rfl) (by simp [Value.oneCell']) _ _ [.int .i64 (F / 64), .int .i64 (F / 8 % 8), .int .i64 (F % 8), .int .i64 (fB l 1 1), .int .i64 (iB l 2 1), .int .i64 (iB l 3 1), .int .u32 (fB l 4 4), .int .u32 (fB l 8 4), .int .u32 0, .int .u64 0, .int .u64 0, .int .u64 0, .int .u64 0] J3 (by simp) sizeU32 (by rfl) ?_; intro w4 J4 s4 g4)
      have R4 := R3.but g4 (by omega)
      have B4 := B3.trans (g4.below (by omega) (by omega))
      have H4 := H3.grown g4 (by omega) (by intro g hg; simp at hg; omega)
      have z4 := J4.lt
      clear hE J3 R3 B3 H3 g4
      have hE := rgetb_any (some ⟨b, o, none⟩) n c 0 w.heap.size l 12 4 12 4 w4 hn H4 rfl rfl (by omega) (by omega) (by omega)
      go_wp2_with fail
      with_reducible refine hE.mono ?_
      rintro e _ ⟨rfl, rfl⟩
      go_wp2_with (refine wpl_storeg (by rfl) 22 _ _ (by rfl) w1.heap.size 8 (by rfl) (.int .u32 (fB l 12 4)) (by rfl) (by rfl) (by simp [Value.oneCell']) _ _ [.int .i64 (F / 64), .int .i64 (F / 8 % 8), .int .i64 (F % 8), .int .i64 (fB l 1 1), .int .i64 (iB l 2 1), .int .i64 (iB l 3 1), .int .u32 (fB l 4 4), .int .u32 (fB l 8 4), .int .u32 (fB l 12 4), .int .u64 0, .int .u64 0, .int .u64 0, .int .u64 0] J4 (by simp) sizeU32 (by rfl) ?_; intro w5 J5 s5 g5)
      have R5 := R4.but g5 (by omega)
      have B5 := B4.trans (g5.below (by omega) (by omega))
      have H5 := H4.grown g5 (by omega) (by intro g hg; simp at hg; omega)
      have z5 := J5.lt
      clear hE J4 R4 B4 H4 g5
      have hE := rgetb_any (some ⟨b, o, none⟩) n c 0 w.heap.size l 16 8 16 8 w5 hn H5 rfl rfl (by omega) (by omega) (by omega)
      go_wp2_with fail
      with_reducible refine hE.mono ?_
      rintro e _ ⟨rfl, rfl⟩
      go_wp2_with (refine wpl_storeg (by rfl) 23 _ _ (by rfl) w1.heap.size 9 (by rfl) (.int .u64 (fB l 16 8)) (by rfl) (by rfl) (by simp [Value.oneCell']) _ _ [.int .i64 (F / 64), .int .i64 (F / 8 % 8), .int .i64 (F % 8), .int .i64 (fB l 1 1), .int .i64 (iB l 2 1), .int .i64 (iB l 3 1), .int .u32 (fB l 4 4), .int .u32 (fB l 8 4), .int .u32 (fB l 12 4), .int .u64 (fB l 16 8), .int .u64 0, .int .u64 0, .int .u64 0] J5 (by simp) sizeU64 (by rfl) ?_; intro w6 J6 s6 g6)
      have R6 := R5.but g6 (by omega)
      have B6 := B5.trans (g6.below (by omega) (by omega))
      have H6 := H5.grown g6 (by omega) (by intro g hg; simp at hg; omega)
      have z6 := J6.lt
      clear hE J5 R5 B5 H5 g6
      have hE := rgetb_any (some ⟨b, o, none⟩) n c 0 w.heap.size l 24 8 24 8 w6 hn H6 rfl rfl (by omega) (by omega) (by omega)
      go_wp2_with fail
      with_reducible refine hE.mono ?_
      rintro e _ ⟨rfl, rfl⟩
      go_wp2_with (refine wpl_storeg (by rfl) 23 _ _ (by rfl) w1.heap.size 10 (by rfl) (.int .u64 (fB l 24 8)) (by rfl) (by rfl) (by simp [Value.oneCell']) _ _ [.int .i64 (F / 64), .int .i64 (F / 8 % 8), .int .i64 (F % 8), .int .i64 (fB l 1 1), .int .i64 (iB l 2 1), .int .i64 (iB l 3 1), .int .u32 (fB l 4 4), .int .u32 (fB l 8 4), .int .u32 (fB l 12 4), .int .u64 (fB l 16 8), .int .u64 (fB l 24 8), .int .u64 0, .int .u64 0] J6 (by simp) sizeU64 (by rfl) ?_; intro w7 J7 s7 g7)
      have R7 := R6.but g7 (by omega)
      have B7 := B6.trans (g7.below (by omega) (by omega))
      have H7 := H6.grown g7 (by omega) (by intro g hg; simp at hg; omega)
      have z7 := J7.lt
      clear hE J6 R6 B6 H6 g7
      have hE := rgetb_any (some ⟨b, o, none⟩) n c 0 w.heap.size l 32 8 32 8 w7 hn H7 rfl rfl (by omega) (by omega) (by omega)
      go_wp2_with fail
      with_reducible refine hE.mono ?_
      rintro e _ ⟨rfl, rfl⟩
      go_wp2_with (refine wpl_storeg (by rfl) 23 _ _ (by rfl) w1.heap.size 11 (by rfl) (.int .u64 (fB l 32 8)) (by rfl) (by rfl) (by simp [Value.oneCell']) _ _ [.int .i64 (F / 64), .int .i64 (F / 8 % 8), .int .i64 (F % 8), .int .i64 (fB l 1 1), .int .i64 (iB l 2 1), .int .i64 (iB l 3 1), .int .u32 (fB l 4 4), .int .u32 (fB l 8 4), .int .u32 (fB l 12 4), .int .u64 (fB l 16 8), .int .u64 (fB l 24 8), .int .u64 (fB l 32 8), .int .u64 0] J7 (by simp) sizeU64 (by rfl) ?_; intro w8 J8 s8 g8)
      have R8 := R7.but g8 (by omega)
      have B8 := B7.trans (g8.below (by omega) (by omega))
      have H8 := H7.grown g8 (by omega) (by intro g hg; simp at hg; omega)
      have z8 := J8.lt
      clear hE J7 R7 B7 H7 g8
      have hE := rgetb_any (some ⟨b, o, none⟩) n c 0 w.heap.size l 40 8 40 8 w8 hn H8 rfl rfl (by omega) (by omega) (by omega)
      go_wp2_with fail
      with_reducible refine hE.mono ?_
      rintro e _ ⟨rfl, rfl⟩
      go_wp2_with (refine wpl_storeg (by rfl) 23 _ _ (by rfl) w1.heap.size 12 (by rfl) (.int .u64 (fB l 40 8)) (by rfl) (by rfl) (by simp [Value.oneCell']) _ _ [.int .i64 (F / 64), .int .i64 (F / 8 % 8), .int .i64 (F % 8), .int .i64 (fB l 1 1), .int .i64 (iB l 2 1), .int .i64 (iB l 3 1), .int .u32 (fB l 4 4), .int .u32 (fB l 8 4), .int .u32 (fB l 12 4), .int .u64 (fB l 16 8), .int .u64 (fB l 24 8), .int .u64 (fB l 32 8), .int .u64 (fB l 40 8)] J8 (by simp) sizeU64 (by rfl) ?_; intro w9 J9 s9 g9)
      have R9 := R8.but g9 (by omega)
      have B9 := B8.trans (g9.below (by omega) (by omega))
      have H9 := H8.grown g9 (by omega) (by intro g hg; simp at hg; omega)
      have z9 := J9.lt
      clear hE J8 R8 B8 H8 g9
      go_wp2_with fail
      obtain ⟨A1, hA1, hS48⟩ : ∃ A1, (if c = 48 then some (⟨b, o, none⟩ : Addr) else some ⟨b, o + 48, none⟩) = A1 ∧ Bs w9 0 w.heap.size A1 (l.drop 48) := ⟨_, rfl, H9.drop (i := 48) (c := c) (by omega)⟩
      have hl48 : (l.drop 48).length = n - 48 := by rw [List.length_drop, hn]
      have hnn : (n : Int) ≤ c := by omega
      have zR := R9.lt
      have RA := R9.old (o := .cells #[] 5)
      have hA48 := hA1
      have O0 : ∀ y, Blk y w9.heap.size 5 [] → Ow y w9.heap.size (some ⟨w9.heap.size, 0, none⟩) 0 [] := fun y hy => ow_empty hy (Nat.le_refl _)
      refine wp_region_heldL (fun w' => Blk w' w1.heap.size 25 [.int .i64 (F / 64), .int .i64 (F / 8 % 8), .int .i64 (F % 8), .int .i64 (fB l 1 1), .int .i64 (iB l 2 1), .int .i64 (iB l 3 1), .int .u32 (fB l 4 4), .int .u32 (fB l 8 4), .int .u32 (fB l 12 4), .int .u64 (fB l 16 8), .int .u64 (fB l 24 8), .int .u64 (fB l 32 8), .int .u64 (fB l 40 8)]) 8 (by kernel_rfl) rfl J9.drew fun hHeld => ?_
      simp only [List.replicate]
      refine wpH_take (i := 0) (v := .agg ([.int .i64 (F / 64), .int .i64 (F / 8 % 8), .int .i64 (F % 8), .int .i64 (fB l 1 1), .int .i64 (iB l 2 1), .int .i64 (iB l 3 1), .int .u32 (fB l 4 4), .int .u32 (fB l 8 4), .int .u32 (fB l 12 4), .int .u64 (fB l 16 8), .int .u64 (fB l 24 8), .int .u64 (fB l 32 8), .int .u64 (fB l 40 8)]).toArray) (by simp only [List.getElem?_toArray, List.getElem?_cons_succ, List.getElem?_cons_zero]; rfl) (by kernel_rfl) (by kernel_rfl) (by kernel_rfl) (by intro _ _ _ h; exact h) (yieldsIf_load_mid (by rfl) 25 _ (by rfl) w1.heap.size 0 (by rfl) [.int .i64 (F / 64), .int .i64 (F / 8 % 8), .int .i64 (F % 8), .int .i64 (fB l 1 1), .int .i64 (iB l 2 1), .int .i64 (iB l 3 1), .int .u32 (fB l 4 4), .int .u32 (fB l 8 4), .int .u32 (fB l 12 4), .int .u64 (fB l 16 8), .int .u64 (fB l 24 8), .int .u64 (fB l 32 8), .int .u64 (fB l 40 8)] _ (fun w' h => Blk.range h) Try.underlying25 rfl sizeNtp) hHeld ?_
      (try simp only [Act.put, List.setIfInBounds_toArray, List.set_cons_zero, List.set_cons_succ])
      (refine wpH_take (i := 2) (v := _) (by simp only [List.getElem?_toArray, List.getElem?_cons_succ, List.getElem?_cons_zero]; rfl) (by kernel_rfl) (by kernel_rfl) (by kernel_rfl) (by intro _ _ _ h; exact h) (Or.inl ⟨by rfl, (by intro w' hSw; (try dsimp only at hSw); go_simp; first | done | with_reducible rfl)⟩) (by assumption) ?_; (try simp only [Act.put, List.setIfInBounds_toArray, List.set_cons_zero, List.set_cons_succ]))
      (refine wpH_take (i := 3) (v := _) (by simp only [List.getElem?_toArray, List.getElem?_cons_succ, List.getElem?_cons_zero]; rfl) (by kernel_rfl) (by kernel_rfl) (by kernel_rfl) (by intro _ _ _ h; exact h) (Or.inl ⟨by rfl, (by intro w' hSw; (try dsimp only at hSw); go_simp; first | done | with_reducible rfl)⟩) (by assumption) ?_; (try simp only [Act.put, List.setIfInBounds_toArray, List.set_cons_zero, List.set_cons_succ]))
      (refine wpH_one (i := 1) (by simp only [List.getElem?_toArray, List.getElem?_cons_succ, List.getElem?_cons_zero]; rfl) (by kernel_rfl) (by rfl) ?_; (refine wp_buildEmpty 26 (by rfl) Try.underlying26 ?_; refine ⟨J9.drew.old, ?_⟩); (try simp only [Act.put, List.setIfInBounds_toArray, List.set_cons_zero, List.set_cons_succ]))
      (refine wpH_one (i := 4) (by simp only [List.getElem?_toArray, List.getElem?_cons_succ, List.getElem?_cons_zero]; rfl) (by kernel_rfl) (by rfl) ?_; (refine wp_append_bs (.tmp 69) (.tmp 71) (by rfl) 0 0 (n - 48) (c - 48) (by rfl) (by rfl) rfl hl48 (ow_empty (Blk.new w9.drew 5 #[] [] rfl) (Nat.le_refl _)) (Bs.alloc (Bs.drew hS48) (Nat.le_of_lt zR) (.cells #[] 5)) (by omega) (by simp) ?_; intro A2 c2 wA hO4 hb4; refine ⟨Blk.below J9.drew.old hb4 z9, ?_⟩); (try simp only [Act.put, List.setIfInBounds_toArray, List.set_cons_zero, List.set_cons_succ]))
      have JA : Blk wA w1.heap.size 25 [.int .i64 (F / 64), .int .i64 (F / 8 % 8), .int .i64 (F % 8), .int .i64 (fB l 1 1), .int .i64 (iB l 2 1), .int .i64 (iB l 3 1), .int .u32 (fB l 4 4), .int .u32 (fB l 8 4), .int .u32 (fB l 12 4), .int .u64 (fB l 16 8), .int .u64 (fB l 24 8), .int .u64 (fB l 32 8), .int .u64 (fB l 40 8)] := Blk.below J9.drew.old hb4 z9
      have RB : Blk wA w.heap.size 25 zN := Blk.below (R9.drew.old) hb4 zR
      (refine wpH_one (i := 5) (by simp only [List.getElem?_toArray, List.getElem?_cons_succ, List.getElem?_cons_zero]; rfl) (by kernel_rfl) (by rfl) ?_; (refine wp_store_mid 25 (.tmp 2) (.tmp 68) (by rfl) w.heap.size 0 ([.int .i64 (F / 64), .int .i64 (F / 8 % 8), .int .i64 (F % 8), .int .i64 (fB l 1 1), .int .i64 (iB l 2 1), .int .i64 (iB l 3 1), .int .u32 (fB l 4 4), .int .u32 (fB l 8 4), .int .u32 (fB l 12 4), .int .u64 (fB l 16 8), .int .u64 (fB l 24 8), .int .u64 (fB l 32 8), .int .u64 (fB l 40 8)]).toArray (by rfl) (by rfl) RB.there sizeNtp (all_oneCell_toArray (by simp [Value.oneCell'])) ?_; refine ⟨Blk.but JA (but_setCells _ _ _ (World.grownBy.refl wA _)) (by omega), ?_⟩); (try simp only [Act.put, List.setIfInBounds_toArray, List.set_cons_zero, List.set_cons_succ]))
      have RC : Blk (wA.setCells w.heap.size 0 [.int .i64 (F / 64), .int .i64 (F / 8 % 8), .int .i64 (F % 8), .int .i64 (fB l 1 1), .int .i64 (iB l 2 1), .int .i64 (iB l 3 1), .int .u32 (fB l 4 4), .int .u32 (fB l 8 4), .int .u32 (fB l 12 4), .int .u64 (fB l 16 8), .int .u64 (fB l 24 8), .int .u64 (fB l 32 8), .int .u64 (fB l 40 8)]) w.heap.size 25 [.int .i64 (F / 64), .int .i64 (F / 8 % 8), .int .i64 (F % 8), .int .i64 (fB l 1 1), .int .i64 (iB l 2 1), .int .i64 (iB l 3 1), .int .u32 (fB l 4 4), .int .u32 (fB l 8 4), .int .u32 (fB l 12 4), .int .u64 (fB l 16 8), .int .u64 (fB l 24 8), .int .u64 (fB l 32 8), .int .u64 (fB l 40 8)] := RB.stored [.int .i64 (F / 64), .int .i64 (F / 8 % 8), .int .i64 (F % 8), .int .i64 (fB l 1 1), .int .i64 (iB l 2 1), .int .i64 (iB l 3 1), .int .u32 (fB l 4 4), .int .u32 (fB l 8 4), .int .u32 (fB l 12 4), .int .u64 (fB l 16 8), .int .u64 (fB l 24 8), .int .u64 (fB l 32 8), .int .u64 (fB l 40 8)] rfl
      have GC : But w.heap.size wA (wA.setCells w.heap.size 0 [.int .i64 (F / 64), .int .i64 (F / 8 % 8), .int .i64 (F % 8), .int .i64 (fB l 1 1), .int .i64 (iB l 2 1), .int .i64 (iB l 3 1), .int .u32 (fB l 4 4), .int .u32 (fB l 8 4), .int .u32 (fB l 12 4), .int .u64 (fB l 16 8), .int .u64 (fB l 24 8), .int .u64 (fB l 32 8), .int .u64 (fB l 40 8)]) := but_setCells _ _ _ (World.grownBy.refl wA _)
      have hlast : Blk (wA.setCells w.heap.size 0 [.int .i64 (F / 64), .int .i64 (F / 8 % 8), .int .i64 (F % 8), .int .i64 (fB l 1 1), .int .i64 (iB l 2 1), .int .i64 (iB l 3 1), .int .u32 (fB l 4 4), .int .u32 (fB l 8 4), .int .u32 (fB l 12 4), .int .u64 (fB l 16 8), .int .u64 (fB l 24 8), .int .u64 (fB l 32 8), .int .u64 (fB l 40 8)]) w1.heap.size 25 [.int .i64 (F / 64), .int .i64 (F / 8 % 8), .int .i64 (F % 8), .int .i64 (fB l 1 1), .int .i64 (iB l 2 1), .int .i64 (iB l 3 1), .int .u32 (fB l 4 4), .int .u32 (fB l 8 4), .int .u32 (fB l 12 4), .int .u64 (fB l 16 8), .int .u64 (fB l 24 8), .int .u64 (fB l 32 8), .int .u64 (fB l 40 8)] := JA.but GC (by omega)
      (refine wpH_take (i := 6) (v := _) (by simp only [List.getElem?_toArray, List.getElem?_cons_succ, List.getElem?_cons_zero]; rfl) (by kernel_rfl) (by kernel_rfl) (by kernel_rfl) (by intro _ _ _ h; exact h) (Or.inl ⟨by rfl, (by intro w' hSw; (try dsimp only at hSw); go_simp; first | done | with_reducible rfl)⟩) (by assumption) ?_; (try simp only [Act.put, List.setIfInBounds_toArray, List.set_cons_zero, List.set_cons_succ]))
      (refine wpH_take (i := 7) (v := _) (by simp only [List.getElem?_toArray, List.getElem?_cons_succ, List.getElem?_cons_zero]; rfl) (by kernel_rfl) (by kernel_rfl) (by kernel_rfl) (by intro _ _ _ h; exact h) (Or.inl ⟨by rfl, (by intro w' hSw; (try dsimp only at hSw); go_simp; first | done | with_reducible rfl)⟩) (by assumption) ?_; (try simp only [Act.put, List.setIfInBounds_toArray, List.set_cons_zero, List.set_cons_succ]))
      refine wpH_done (by kernel_rfl) ?_ _
      have BA : Below w.heap.size w wA := ((B9.drew.alloc B9.size _)).trans (hb4.mono (Nat.le_of_lt zR))
      have BC := BA.trans (GC.below BA.size (Nat.le_refl _))
      have OC := hO4.grown GC (by intro g hg; have := (hO4.blt g hg).1; simp at this ⊢; omega)
      generalize (wA.setCells w.heap.size 0 [.int .i64 (F / 64), .int .i64 (F / 8 % 8), .int .i64 (F % 8), .int .i64 (fB l 1 1), .int .i64 (iB l 2 1), .int .i64 (iB l 3 1), .int .u32 (fB l 4 4), .int .u32 (fB l 8 4), .int .u32 (fB l 12 4), .int .u64 (fB l 16 8), .int .u64 (fB l 24 8), .int .u64 (fB l 32 8), .int .u64 (fB l 40 8)]) = wB at RC BC OC ⊢
      clear hlast JA GC BA hO4 hb4 RB
      go_wp2_with fail
      refine bodyPost_ret (res_cxy Try.results15 (by rfl) RC Try.underlying25 rfl sizeNtp (by rfl) (by rfl) (by rfl)) rfl ?_
      exact ⟨A2, c2, rfl, (List.nil_append (l.drop 48) ▸ OC).wide (Nat.le_of_lt zR), BC⟩
end Go.Proofs.Ythhdbpdgppppiaa
