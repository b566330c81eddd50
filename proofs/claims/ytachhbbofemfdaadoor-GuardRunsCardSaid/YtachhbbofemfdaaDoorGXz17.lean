/- What the reference's Decode computes. The reference's client: NewClient, Cookies. The reference's guard: Decode in one statement, read, tagged. -/
import Derived.Test.YtachhbbofemfdaaDoorGXz6
import Derived.Test.YtachhbbofemfdaaDoorGXz1
import Derived.Deep.AppendLies
import Derived.Deep.RegionHeld3
import Derived.Test.YtachhbbofemfdaaDoorGXz2
import Derived.Test.YtachhbbofemfdaaDoorGXz4
import Derived.Test.YtachhbbofemfdaaDoorGXz7
import Derived.Test.YtachhbbofemfdaaDoorGXz16
import Derived.Test.YtachhbbofemfdaaDoorGXz15
namespace Go.Proofs.YtachhbbofemfdaaDoor
open Go.RowKit
set_option linter.unusedSimpArgs false
set_option linter.unusedVariables false
set_option maxRecDepth 100000
theorem ow_empty {y : World} {lo g : Nat} (h : Blk y g 5 []) (hlo : lo ≤ g) : Ow y lo (some ⟨g, 0, none⟩) 0 [] :=
  ⟨Byt.nil, by simp, .inr ⟨g, 0, #[], rfl, hlo, h, Nat.zero_le _, by unfold maxLen; omega, by simp, by simp⟩⟩
/-- an empty slice literal -/
theorem wp_buildEmpty {o : Oper} {a : Act} {w : World} {K : Act → World → Prop} {Q : Exit → Act → World → Prop} (T : TypeId) (ho : o.op = .buildSlice T 0 #[]) (hT : Tryd.prog.underlying T = some (.slice 5))
    (h : K (a.put o.dst (.slice (some ⟨w.heap.size, 0, none⟩) 0 0)) (w.alloc (.cells #[] 5))) : o.wp Tryd.prog a w K Q := by
  have hi := infoU8
  have hr : (execOp a.eval o).run Tryd.prog w = .ok (.value (.slice (some ⟨w.heap.size, 0, none⟩) 0 0)) (w.alloc (.cells #[] 5)) := by
    unfold execOp
    simp only [ho]
    obtain ⟨i, hi0, hz, h1, h2⟩ := info_parts infoU8
    simp [Instr.buildSlice, run_underlying hT, sizeOf, typeInfo, zeroValue, hi0, hz, h1, newRow, Sem.run_bind]
    have hf : Instr.fill (fun i => some (i, 1)) (Array.map (fun x : Nat => (default : Value)) (Array.range 0)) [] = some #[] := by simp [Instr.fill]
    rw [hf]
    simp
  unfold Oper.wp
  rw [hr]
  exact h
theorem sizeU32 : (Tryd.prog.info? 25).map (·.size) = some 1 := by kernel_rfl
theorem sizeU64 : (Tryd.prog.info? 22).map (·.size) = some 1 := by kernel_rfl
set_option maxRecDepth 100000 in
set_option maxHeartbeats 1000000 in
theorem rdecode_short (A : Option Addr) (n c : Nat) (w : World) (hlt : n < 48) :
    Calls Tryd.prog 65 #[.slice A n c] w fun e w' => e = .returned (.tuple #[ntp 0 0 0 0 0 0 0 0 0 0 0 0 0, .slice none 0 0, .int .i64 5]) ∧ Below w.heap.size w w' := by
  have h48 : (n : Int) < 48 := by omega
  go_enter Tryd.func65, Tryd.ntmps65
  go_wp2
  refine bodyPost_ret (v := .tuple #[ntp 0 0 0 0 0 0 0 0 0 0 0 0 0, .slice none 0 0, .int .i64 5]) (by simp [results, Tryd.results65, go_sem, *]) rfl ⟨rfl, ?_⟩
  (repeat (first | assumption | exact Below.refl _ _ | refine Below.drew ?_ | refine below_drewN ?_ _ | refine Below.setCell ?_ (by first | omega | (simp; done) | (simp <;> omega)) _ | refine Below.alloc ?_ (by first | omega | (simp; done) | (simp <;> omega)) _ | refine Below.trans ?_ (Below.mono (by assumption) (by first | omega | (simp; done) | (simp <;> omega)))))
set_option maxRecDepth 100000 in
set_option maxHeartbeats 2000000 in
theorem rdecode_kind (A : Option Addr) (n c : Nat) (l : List Int) (w : World) (hn : l.length = n) (h : Bs w 0 w.heap.size A l) (h48 : 48 ≤ n) (F : Int) (hF : fB l 0 1 = F) (hv : ¬(1 ≤ F / 8 % 8 ∧ F / 8 % 8 ≤ 4)) :
    Calls Tryd.prog 65 #[.slice A n c] w fun e w' => e = .returned (.tuple #[ntp 0 0 0 0 0 0 0 0 0 0 0 0 0, .slice none 0 0, .int .i64 8]) ∧ Below w.heap.size w w' := by
  subst hn
  obtain ⟨b, o, rfl, _, hbw, hc'⟩ := h.at (by omega)
  have hbl := h.byt
  rw [fB_one hbl 0 (by omega)] at hF
  have hc0 : w.cell? ⟨b, o, none⟩ = some (.int .u8 (atB l 0)) := hc' 0 (by omega)
  have hFr := hbl.at 0
  rw [hF] at hc0 hFr
  have hF0 := hFr.1
  have hF1 := hFr.2
  have hwF : IntKind.i64.wrap F = F := by rw [IntKind.wrap_i64]; omega
  have h48' : (48 : Int) ≤ l.length := by omega
  have h0l : (0 : Int) < l.length := by omega
  clear hc'
  by_cases h1 : F / 8 % 8 < 1
  · have hq : F / 8 % 8 = 0 := by omega
    clear hv
    go_enter Tryd.func65, Tryd.ntmps65
    go_wp2
    refine bodyPost_ret (v := .tuple #[ntp 0 0 0 0 0 0 0 0 0 0 0 0 0, .slice none 0 0, .int .i64 8]) (by simp [results, Tryd.results65, go_sem, *]) rfl ⟨rfl, ?_⟩
    (repeat (first | assumption | exact Below.refl _ _ | refine Below.drew ?_ | refine below_drewN ?_ _ | refine Below.setCell ?_ (by first | omega | (simp; done) | (simp <;> omega)) _ | refine Below.alloc ?_ (by first | omega | (simp; done) | (simp <;> omega)) _ | refine Below.trans ?_ (Below.mono (by assumption) (by first | omega | (simp; done) | (simp <;> omega)))))
  · have h2 : 4 < F / 8 % 8 := by omega
    clear hv
    go_enter Tryd.func65, Tryd.ntmps65
    go_wp2
    refine bodyPost_ret (v := .tuple #[ntp 0 0 0 0 0 0 0 0 0 0 0 0 0, .slice none 0 0, .int .i64 8]) (by simp [results, Tryd.results65, go_sem, *]) rfl ⟨rfl, ?_⟩
    (repeat (first | assumption | exact Below.refl _ _ | refine Below.drew ?_ | refine below_drewN ?_ _ | refine Below.setCell ?_ (by first | omega | (simp; done) | (simp <;> omega)) _ | refine Below.alloc ?_ (by first | omega | (simp; done) | (simp <;> omega)) _ | refine Below.trans ?_ (Below.mono (by assumption) (by first | omega | (simp; done) | (simp <;> omega)))))
set_option maxRecDepth 100000 in
set_option maxHeartbeats 40000000 in
theorem rdecode_ok (A : Option Addr) (n c : Nat) (l : List Int) (w : World) (hn : l.length = n) (h : Bs w 0 w.heap.size A l) (hnc : n ≤ c) (h48 : 48 ≤ n) (hm : n ≤ 140737488351232) (F : Int) (hF : fB l 0 1 = F) (hv : 1 ≤ F / 8 % 8 ∧ F / 8 % 8 ≤ 4) :
    Calls Tryd.prog 65 #[.slice A n c] w fun e w' => ∃ A' c', e = .returned (.tuple #[ntp (F / 64) (F / 8 % 8) (F % 8) (fB l 1 1) (iB l 2 1) (iB l 3 1) (fB l 4 4) (fB l 8 4) (fB l 12 4) (fB l 16 8) (fB l 24 8) (fB l 32 8) (fB l 40 8), .slice A' (n - 48) c', .int .i64 0]) ∧ Ow w' w.heap.size A' c' (l.drop 48) ∧ Below w.heap.size w w' := by
  obtain ⟨b, o, rfl, _, hbw, hc'⟩ := h.at (by omega)
  have hbl := h.byt
  rw [fB_one hbl 0 (by omega)] at hF
  have hc0 : w.cell? ⟨b, o, none⟩ = some (.int .u8 (atB l 0)) := hc' 0 (by omega)
  have hc1 := hc' 1 (by omega)
  have hc2 := hc' 2 (by omega)
  have hc3 := hc' 3 (by omega)
  have hFr := hbl.at 0
  rw [hF] at hc0 hFr
  have hF0 := hFr.1
  have hF1 := hFr.2
  have hwF : IntKind.i64.wrap F = F := by rw [IntKind.wrap_i64]; omega
  have hv1 := hv.1
  have hv2 := hv.2
  have h48' : (48 : Int) ≤ n := by omega
  have hi0 : (0 : Int) < n := by omega
  have hi1 : (1 : Int) < n := by omega
  have hi2 : (2 : Int) < n := by omega
  have hi3 : (3 : Int) < n := by omega
  have hy1 := hbl.at 1
  have hy2 := hbl.at 2
  have hy3 := hbl.at 3
  have hw1 : IntKind.i64.wrap (atB l 1) = atB l 1 := by rw [IntKind.wrap_i64]; omega
  have hw1' : wrap64 (atB l 1) = atB l 1 := by unfold wrap64; omega
  have hwF' : wrap64 F = F := by unfold wrap64; omega
  have hq64 : IntKind.i64.wrap (F.tdiv 64) = F / 64 := by rw [Int.tdiv_eq_ediv_of_nonneg hF0, IntKind.wrap_i64]; omega
  have hq8 : F.tmod 8 = F % 8 := Int.tmod_eq_emod_of_nonneg hF0
  have r6 := fB_rng hbl 4 4
  have w6_ : IntKind.u32.wrap (fB l 4 4) = fB l 4 4 := by rw [IntKind.wrap_u32]; omega
  have r7 := fB_rng hbl 8 4
  have w7_ : IntKind.u32.wrap (fB l 8 4) = fB l 8 4 := by rw [IntKind.wrap_u32]; omega
  have r8 := fB_rng hbl 12 4
  have w8_ : IntKind.u32.wrap (fB l 12 4) = fB l 12 4 := by rw [IntKind.wrap_u32]; omega
  clear hc' hv
  have hsg2 := fun W => signed_any (atB l 2) W hy2.1 hy2.2
  have hsg3 := fun W => signed_any (atB l 3) W hy3.1 hy3.2
  rw [← iB_one hbl 2 (by omega)] at hsg2
  rw [← iB_one hbl 3 (by omega)] at hsg3
  rw [← fB_one hbl 1 (by omega)] at hw1 hw1' hy1 hc1
  clear hbl
  go_enter Tryd.func65, Tryd.ntmps65
  go_wp2_with ((refine wpl_alloc (by rfl) 27 (by rfl) (.agg (zN).toArray) (zN) zeroNtp rfl ?_; intro w1 R1 s1 b1); (have d0 := kept_cell b1 hc0 hbw))
  have q1 : Kc w1 [] b (o + 1) (.int .u8 (fB l 1 1)) := ⟨kept_cell b1 hc1 hbw, by simp⟩
  have q2 : Kc w1 [] b (o + 2) (.int .u8 (atB l 2)) := ⟨kept_cell b1 hc2 hbw, by simp⟩
  have q3 : Kc w1 [] b (o + 3) (.int .u8 (atB l 3)) := ⟨kept_cell b1 hc3 hbw, by simp⟩
  have hB1 := h.below b1 (Nat.le_refl _)
  clear hc0 hc1 hc2 hc3 h
  go_region_held3 (fun w' => w'.cell? ⟨b, o + 1, none⟩ = some (.int .u8 (fB l 1 1)) ∧ w'.cell? ⟨b, o + 2, none⟩ = some (.int .u8 (atB l 2)) ∧ w'.cell? ⟨b, o + 3, none⟩ = some (.int .u8 (atB l 3)) ∧ Kp w1 [] w') (((try go_split_ands); (with_reducible refine kp3 ?_ q1 q2 q3); (repeat (with_reducible first | (refine Kp.set ?_ ?_; rotate_left; (with_reducible first | exact Or.inl (Nat.le_refl _) | exact Or.inr (List.mem_cons_self ..) | (refine Or.inl ?_; assumption) | (refine Or.inl (Kp.size ?_); assumption))) | refine Kp.drew ?_ | refine Kp.alloc _ ?_ | assumption | exact Kp.refl _ _ | exact Kp.belowS hb (by assumption) | exact Kp.but hg (by assumption) (Or.inr (List.mem_cons_self ..)))))) (first
    | (go_at_call 94; ((with_reducible refine (hsg2 _).mono ?_); rintro e w1 ⟨rfl, rfl⟩))
    | (go_at_call 94; ((with_reducible refine (hsg3 _).mono ?_); rintro e w1 ⟨rfl, rfl⟩)))
  all_goals
    as_aux_lemma =>
      (try simp only [hq64, hq8])
      obtain ⟨w2, hW⟩ : ∃ W, (w1.alloc (.cells #[.int .i64 (F / 64), .int .i64 (F / 8 % 8), .int .i64 (F % 8), .int .i64 (fB l 1 1), .int .i64 (iB l 2 1), .int .i64 (iB l 3 1), .int .u32 0, .int .u32 0, .int .u32 0, .int .u64 0, .int .u64 0, .int .u64 0, .int .u64 0] 27)).drew = W := ⟨_, rfl⟩
      have J2 : Blk w2 w1.heap.size 27 [.int .i64 (F / 64), .int .i64 (F / 8 % 8), .int .i64 (F % 8), .int .i64 (fB l 1 1), .int .i64 (iB l 2 1), .int .i64 (iB l 3 1), .int .u32 0, .int .u32 0, .int .u32 0, .int .u64 0, .int .u64 0, .int .u64 0, .int .u64 0] := by rw [← hW]; exact (Blk.new w1 _ _ _ rfl).drew
      have K2 : Kp w1 [] w2 := by rw [← hW]; exact ((Kp.refl w1 []).alloc _).drew
      rw [hW]
      have R2 := K2.blk R1 (by simp)
      have B2 := K2.toBelow b1 (by omega) (by simp)
      have H2 := K2.bs hB1 (by omega) (by simp)
      have z2 := J2.lt
      clear hW K2 R1 b1 hB1 q1 q2 q3 hsg2 hsg3 d0
      have hE := rgetb_any (some ⟨b, o, none⟩) n c 0 w.heap.size l 4 4 4 4 w2 hn H2 rfl rfl (by omega) (by omega) (by omega)
      go_wp2_with fail
      with_reducible refine hE.mono ?_
      rintro e _ ⟨rfl, rfl⟩
      go_wp2_with (refine wpl_storeg (by rfl) 25 _ _ (by rfl) w1.heap.size 6 (by rfl) (.int .u32 (fB l 4 4)) (by rfl) (by rfl) (by simp [Value.oneCell']) _ _ [.int .i64 (F / 64), .int .i64 (F / 8 % 8), .int .i64 (F % 8), .int .i64 (fB l 1 1), .int .i64 (iB l 2 1), .int .i64 (iB l 3 1), .int .u32 (fB l 4 4), .int .u32 0, .int .u32 0, .int .u64 0, .int .u64 0, .int .u64 0, .int .u64 0] J2 (by simp) sizeU32 (by rfl) ?_; intro w3 J3 s3 g3)
      have R3 := R2.but g3 (by omega)
      have B3 := B2.trans (g3.below (by omega) (by omega))
      have H3 := H2.grown g3 (by omega) (by intro g hg; simp at hg; omega)
      have z3 := J3.lt
      clear hE J2 R2 B2 H2 g3
      have hE := rgetb_any (some ⟨b, o, none⟩) n c 0 w.heap.size l 8 4 8 4 w3 hn H3 rfl rfl (by omega) (by omega) (by omega)
      go_wp2_with fail
      with_reducible refine hE.mono ?_
      rintro e _ ⟨rfl, rfl⟩
      go_wp2_with (refine wpl_storeg (by rfl) 25 _ _ (by rfl) w1.heap.size 7 (by rfl) (.int .u32 (fB l 8 4)) (by rfl) (by rfl) (by simp [Value.oneCell']) _ _ [.int .i64 (F / 64), .int .i64 (F / 8 % 8), .int .i64 (F % 8), .int .i64 (fB l 1 1), .int .i64 (iB l 2 1), .int .i64 (iB l 3 1), .int .u32 (fB l 4 4), .int .u32 (fB l 8 4), .int .u32 0, .int .u64 0, .int .u64 0, .int .u64 0, .int .u64 0] J3 (by simp) sizeU32 (by rfl) ?_; intro w4 J4 s4 g4)
      have R4 := R3.but g4 (by omega)
      have B4 := B3.trans (g4.below (by omega) (by omega))
      have H4 := H3.grown g4 (by omega) (by intro g hg; simp at hg; omega)
      have z4 := J4.lt
      clear hE J3 R3 B3 H3 g4
      have hE := rgetb_any (some ⟨b, o, none⟩) n c 0 w.heap.size l 12 4 12 4 w4 hn H4 rfl rfl (by omega) (by omega) (by omega)
      go_wp2_with fail
      with_reducible refine hE.mono ?_
      rintro e _ ⟨rfl, rfl⟩
      go_wp2_with (refine wpl_storeg (by rfl) 25 _ _ (by rfl) w1.heap.size 8 (by rfl) (.int .u32 (fB l 12 4)) (by rfl) (by rfl) (by simp [Value.oneCell']) _ _ [.int .i64 (F / 64), .int .i64 (F / 8 % 8), .int .i64 (F % 8), .int .i64 (fB l 1 1), .int .i64 (iB l 2 1), .int .i64 (iB l 3 1), .int .u32 (fB l 4 4), .int .u32 (fB l 8 4), .int .u32 (fB l 12 4), .int .u64 0, .int .u64 0, .int .u64 0, .int .u64 0] J4 (by simp) sizeU32 (by rfl) ?_; intro w5 J5 s5 g5)
      have R5 := R4.but g5 (by omega)
      have B5 := B4.trans (g5.below (by omega) (by omega))
      have H5 := H4.grown g5 (by omega) (by intro g hg; simp at hg; omega)
      have z5 := J5.lt
      clear hE J4 R4 B4 H4 g5
      have hE := rgetb_any (some ⟨b, o, none⟩) n c 0 w.heap.size l 16 8 16 8 w5 hn H5 rfl rfl (by omega) (by omega) (by omega)
      go_wp2_with fail
      with_reducible refine hE.mono ?_
      rintro e _ ⟨rfl, rfl⟩
      go_wp2_with (refine wpl_storeg (by rfl) 22 _ _ (by rfl) w1.heap.size 9 (by rfl) (.int .u64 (fB l 16 8)) (by rfl) (by rfl) (by simp [Value.oneCell']) _ _ [.int .i64 (F / 64), .int .i64 (F / 8 % 8), .int .i64 (F % 8), .int .i64 (fB l 1 1), .int .i64 (iB l 2 1), .int .i64 (iB l 3 1), .int .u32 (fB l 4 4), .int .u32 (fB l 8 4), .int .u32 (fB l 12 4), .int .u64 (fB l 16 8), .int .u64 0, .int .u64 0, .int .u64 0] J5 (by simp) sizeU64 (by rfl) ?_; intro w6 J6 s6 g6)
      have R6 := R5.but g6 (by omega)
      have B6 := B5.trans (g6.below (by omega) (by omega))
      have H6 := H5.grown g6 (by omega) (by intro g hg; simp at hg; omega)
      have z6 := J6.lt
      clear hE J5 R5 B5 H5 g6
      have hE := rgetb_any (some ⟨b, o, none⟩) n c 0 w.heap.size l 24 8 24 8 w6 hn H6 rfl rfl (by omega) (by omega) (by omega)
      go_wp2_with fail
      with_reducible refine hE.mono ?_
      rintro e _ ⟨rfl, rfl⟩
      go_wp2_with (refine wpl_storeg (by rfl) 22 _ _ (by rfl) w1.heap.size 10 (by rfl) (.int .u64 (fB l 24 8)) (by rfl) (by rfl) (by simp [Value.oneCell']) _ _ [.int .i64 (F / 64), .int .i64 (F / 8 % 8), .int .i64 (F % 8), .int .i64 (fB l 1 1), .int .i64 (iB l 2 1), .int .i64 (iB l 3 1), .int .u32 (fB l 4 4), .int .u32 (fB l 8 4), .int .u32 (fB l 12 4), .int .u64 (fB l 16 8), .int .u64 (fB l 24 8), .int .u64 0, .int .u64 0] J6 (by simp) sizeU64 (by rfl) ?_; intro w7 J7 s7 g7)
      have R7 := R6.but g7 (by omega)
      have B7 := B6.trans (g7.below (by omega) (by omega))
      have H7 := H6.grown g7 (by omega) (by intro g hg; simp at hg; omega)
      have z7 := J7.lt
      clear hE J6 R6 B6 H6 g7
      have hE := rgetb_any (some ⟨b, o, none⟩) n c 0 w.heap.size l 32 8 32 8 w7 hn H7 rfl rfl (by omega) (by omega) (by omega)
      go_wp2_with fail
      with_reducible refine hE.mono ?_
      rintro e _ ⟨rfl, rfl⟩
      go_wp2_with (refine wpl_storeg (by rfl) 22 _ _ (by rfl) w1.heap.size 11 (by rfl) (.int .u64 (fB l 32 8)) (by rfl) (by rfl) (by simp [Value.oneCell']) _ _ [.int .i64 (F / 64), .int .i64 (F / 8 % 8), .int .i64 (F % 8), .int .i64 (fB l 1 1), .int .i64 (iB l 2 1), .int .i64 (iB l 3 1), .int .u32 (fB l 4 4), .int .u32 (fB l 8 4), .int .u32 (fB l 12 4), .int .u64 (fB l 16 8), .int .u64 (fB l 24 8), .int .u64 (fB l 32 8), .int .u64 0] J7 (by simp) sizeU64 (by rfl) ?_; intro w8 J8 s8 g8)
      have R8 := R7.but g8 (by omega)
      have B8 := B7.trans (g8.below (by omega) (by omega))
      have H8 := H7.grown g8 (by omega) (by intro g hg; simp at hg; omega)
      have z8 := J8.lt
      clear hE J7 R7 B7 H7 g8
      have hE := rgetb_any (some ⟨b, o, none⟩) n c 0 w.heap.size l 40 8 40 8 w8 hn H8 rfl rfl (by omega) (by omega) (by omega)
      go_wp2_with fail
      with_reducible refine hE.mono ?_
      rintro e _ ⟨rfl, rfl⟩
      go_wp2_with (refine wpl_storeg (by rfl) 22 _ _ (by rfl) w1.heap.size 12 (by rfl) (.int .u64 (fB l 40 8)) (by rfl) (by rfl) (by simp [Value.oneCell']) _ _ [.int .i64 (F / 64), .int .i64 (F / 8 % 8), .int .i64 (F % 8), .int .i64 (fB l 1 1), .int .i64 (iB l 2 1), .int .i64 (iB l 3 1), .int .u32 (fB l 4 4), .int .u32 (fB l 8 4), .int .u32 (fB l 12 4), .int .u64 (fB l 16 8), .int .u64 (fB l 24 8), .int .u64 (fB l 32 8), .int .u64 (fB l 40 8)] J8 (by simp) sizeU64 (by rfl) ?_; intro w9 J9 s9 g9)
      have R9 := R8.but g9 (by omega)
      have B9 := B8.trans (g9.below (by omega) (by omega))
      have H9 := H8.grown g9 (by omega) (by intro g hg; simp at hg; omega)
      have z9 := J9.lt
      clear hE J8 R8 B8 H8 g9
      go_wp2_with fail
      obtain ⟨A1, hA1, hS48⟩ : ∃ A1, (if c = 48 then some (⟨b, o, none⟩ : Addr) else some ⟨b, o + 48, none⟩) = A1 ∧ Bs w9 0 w.heap.size A1 (l.drop 48) := ⟨_, rfl, H9.drop (i := 48) (c := c) (by omega)⟩
      have hl48 : (l.drop 48).length = n - 48 := by rw [List.length_drop, hn]
      have hnn : (n : Int) ≤ c := by omega
      have zR := R9.lt
      have RA := R9.old (o := .cells #[] 5)
      have hA48 := hA1
      have O0 : ∀ y, Blk y w9.heap.size 5 [] → Ow y w9.heap.size (some ⟨w9.heap.size, 0, none⟩) 0 [] := fun y hy => ow_empty hy (Nat.le_refl _)
      refine wp_region_heldL (fun w' => Blk w' w1.heap.size 27 [.int .i64 (F / 64), .int .i64 (F / 8 % 8), .int .i64 (F % 8), .int .i64 (fB l 1 1), .int .i64 (iB l 2 1), .int .i64 (iB l 3 1), .int .u32 (fB l 4 4), .int .u32 (fB l 8 4), .int .u32 (fB l 12 4), .int .u64 (fB l 16 8), .int .u64 (fB l 24 8), .int .u64 (fB l 32 8), .int .u64 (fB l 40 8)]) 8 (by kernel_rfl) rfl J9.drew fun hHeld => ?_
      simp only [List.replicate]
      refine wpH_take (i := 0) (v := .agg ([.int .i64 (F / 64), .int .i64 (F / 8 % 8), .int .i64 (F % 8), .int .i64 (fB l 1 1), .int .i64 (iB l 2 1), .int .i64 (iB l 3 1), .int .u32 (fB l 4 4), .int .u32 (fB l 8 4), .int .u32 (fB l 12 4), .int .u64 (fB l 16 8), .int .u64 (fB l 24 8), .int .u64 (fB l 32 8), .int .u64 (fB l 40 8)]).toArray) (by exact gE rfl) (by kernel_rfl) (by kernel_rfl) (by kernel_rfl) (by intro _ _ _ h; exact h) (yieldsIf_load_mid (by rfl) 27 _ (by rfl) w1.heap.size 0 (by rfl) [.int .i64 (F / 64), .int .i64 (F / 8 % 8), .int .i64 (F % 8), .int .i64 (fB l 1 1), .int .i64 (iB l 2 1), .int .i64 (iB l 3 1), .int .u32 (fB l 4 4), .int .u32 (fB l 8 4), .int .u32 (fB l 12 4), .int .u64 (fB l 16 8), .int .u64 (fB l 24 8), .int .u64 (fB l 32 8), .int .u64 (fB l 40 8)] _ (fun w' h => Blk.range h) Tryd.underlying27 rfl sizeNtp) hHeld ?_
      (try simp only [Act.put, zs0, zs1, zs2])
      (refine wpH_t 2 _ (by exact gE rfl) (by kernel_rfl) (by intro _ _ _ h; exact h) (Or.inl ⟨by rfl, (by intro _ h; (try dsimp only at h); go_simp; first | done | with_reducible rfl)⟩) (by assumption) ?_; (try simp only [Act.put, zs0, zs1, zs2]))
      (refine wpH_t 3 _ (by exact gE rfl) (by kernel_rfl) (by intro _ _ _ h; exact h) (Or.inl ⟨by rfl, (by intro _ h; (try dsimp only at h); go_simp; first | done | with_reducible rfl)⟩) (by assumption) ?_; (try simp only [Act.put, zs0, zs1, zs2]))
      (refine wpH_one (i := 1) (by exact gE rfl) (by kernel_rfl) (by rfl) ?_; (refine wp_buildEmpty 23 (by rfl) Tryd.underlying23 ?_; refine ⟨J9.drew.old, ?_⟩); (try simp only [Act.put, zs0, zs1, zs2]))
      (refine wpH_one (i := 4) (by exact gE rfl) (by kernel_rfl) (by rfl) ?_; (refine wp_append_bs (.tmp 69) (.tmp 71) (by rfl) 0 0 (n - 48) (c - 48) (by rfl) (by rfl) rfl hl48 (ow_empty (Blk.new w9.drew 5 #[] [] rfl) (Nat.le_refl _)) (Bs.alloc (Bs.drew hS48) (Nat.le_of_lt zR) (.cells #[] 5)) (by omega) (by simp) ?_; intro A2 c2 wA hO4 hb4; refine ⟨Blk.below J9.drew.old hb4 z9, ?_⟩); (try simp only [Act.put, zs0, zs1, zs2]))
      have JA : Blk wA w1.heap.size 27 [.int .i64 (F / 64), .int .i64 (F / 8 % 8), .int .i64 (F % 8), .int .i64 (fB l 1 1), .int .i64 (iB l 2 1), .int .i64 (iB l 3 1), .int .u32 (fB l 4 4), .int .u32 (fB l 8 4), .int .u32 (fB l 12 4), .int .u64 (fB l 16 8), .int .u64 (fB l 24 8), .int .u64 (fB l 32 8), .int .u64 (fB l 40 8)] := Blk.below J9.drew.old hb4 z9
      have RB : Blk wA w.heap.size 27 zN := Blk.below (R9.drew.old) hb4 zR
      (refine wpH_one (i := 5) (by exact gE rfl) (by kernel_rfl) (by rfl) ?_; (refine wp_store_mid 27 (.tmp 2) (.tmp 68) (by rfl) w.heap.size 0 ([.int .i64 (F / 64), .int .i64 (F / 8 % 8), .int .i64 (F % 8), .int .i64 (fB l 1 1), .int .i64 (iB l 2 1), .int .i64 (iB l 3 1), .int .u32 (fB l 4 4), .int .u32 (fB l 8 4), .int .u32 (fB l 12 4), .int .u64 (fB l 16 8), .int .u64 (fB l 24 8), .int .u64 (fB l 32 8), .int .u64 (fB l 40 8)]).toArray (by rfl) (by rfl) RB.there sizeNtp (all_oneCell_toArray (by simp [Value.oneCell'])) ?_; refine ⟨Blk.but JA (but_setCells _ _ _ (World.grownBy.refl wA _)) (by omega), ?_⟩); (try simp only [Act.put, zs0, zs1, zs2]))
      have RC : Blk (wA.setCells w.heap.size 0 [.int .i64 (F / 64), .int .i64 (F / 8 % 8), .int .i64 (F % 8), .int .i64 (fB l 1 1), .int .i64 (iB l 2 1), .int .i64 (iB l 3 1), .int .u32 (fB l 4 4), .int .u32 (fB l 8 4), .int .u32 (fB l 12 4), .int .u64 (fB l 16 8), .int .u64 (fB l 24 8), .int .u64 (fB l 32 8), .int .u64 (fB l 40 8)]) w.heap.size 27 [.int .i64 (F / 64), .int .i64 (F / 8 % 8), .int .i64 (F % 8), .int .i64 (fB l 1 1), .int .i64 (iB l 2 1), .int .i64 (iB l 3 1), .int .u32 (fB l 4 4), .int .u32 (fB l 8 4), .int .u32 (fB l 12 4), .int .u64 (fB l 16 8), .int .u64 (fB l 24 8), .int .u64 (fB l 32 8), .int .u64 (fB l 40 8)] := RB.stored [.int .i64 (F / 64), .int .i64 (F / 8 % 8), .int .i64 (F % 8), .int .i64 (fB l 1 1), .int .i64 (iB l 2 1), .int .i64 (iB l 3 1), .int .u32 (fB l 4 4), .int .u32 (fB l 8 4), .int .u32 (fB l 12 4), .int .u64 (fB l 16 8), .int .u64 (fB l 24 8), .int .u64 (fB l 32 8), .int .u64 (fB l 40 8)] rfl
      have GC : But w.heap.size wA (wA.setCells w.heap.size 0 [.int .i64 (F / 64), .int .i64 (F / 8 % 8), .int .i64 (F % 8), .int .i64 (fB l 1 1), .int .i64 (iB l 2 1), .int .i64 (iB l 3 1), .int .u32 (fB l 4 4), .int .u32 (fB l 8 4), .int .u32 (fB l 12 4), .int .u64 (fB l 16 8), .int .u64 (fB l 24 8), .int .u64 (fB l 32 8), .int .u64 (fB l 40 8)]) := but_setCells _ _ _ (World.grownBy.refl wA _)
      have hlast : Blk (wA.setCells w.heap.size 0 [.int .i64 (F / 64), .int .i64 (F / 8 % 8), .int .i64 (F % 8), .int .i64 (fB l 1 1), .int .i64 (iB l 2 1), .int .i64 (iB l 3 1), .int .u32 (fB l 4 4), .int .u32 (fB l 8 4), .int .u32 (fB l 12 4), .int .u64 (fB l 16 8), .int .u64 (fB l 24 8), .int .u64 (fB l 32 8), .int .u64 (fB l 40 8)]) w1.heap.size 27 [.int .i64 (F / 64), .int .i64 (F / 8 % 8), .int .i64 (F % 8), .int .i64 (fB l 1 1), .int .i64 (iB l 2 1), .int .i64 (iB l 3 1), .int .u32 (fB l 4 4), .int .u32 (fB l 8 4), .int .u32 (fB l 12 4), .int .u64 (fB l 16 8), .int .u64 (fB l 24 8), .int .u64 (fB l 32 8), .int .u64 (fB l 40 8)] := JA.but GC (by omega)
      (refine wpH_t 6 _ (by exact gE rfl) (by kernel_rfl) (by intro _ _ _ h; exact h) (Or.inl ⟨by rfl, (by intro _ h; (try dsimp only at h); go_simp; first | done | with_reducible rfl)⟩) (by assumption) ?_; (try simp only [Act.put, zs0, zs1, zs2]))
      (refine wpH_t 7 _ (by exact gE rfl) (by kernel_rfl) (by intro _ _ _ h; exact h) (Or.inl ⟨by rfl, (by intro _ h; (try dsimp only at h); go_simp; first | done | with_reducible rfl)⟩) (by assumption) ?_; (try simp only [Act.put, zs0, zs1, zs2]))
      refine wpH_done (by kernel_rfl) ?_ _
      have BA : Below w.heap.size w wA := ((B9.drew.alloc B9.size _)).trans (hb4.mono (Nat.le_of_lt zR))
      have BC := BA.trans (GC.below BA.size (Nat.le_refl _))
      have OC := hO4.grown GC (by intro g hg; have := (hO4.blt g hg).1; simp at this ⊢; omega)
      generalize (wA.setCells w.heap.size 0 [.int .i64 (F / 64), .int .i64 (F / 8 % 8), .int .i64 (F % 8), .int .i64 (fB l 1 1), .int .i64 (iB l 2 1), .int .i64 (iB l 3 1), .int .u32 (fB l 4 4), .int .u32 (fB l 8 4), .int .u32 (fB l 12 4), .int .u64 (fB l 16 8), .int .u64 (fB l 24 8), .int .u64 (fB l 32 8), .int .u64 (fB l 40 8)]) = wB at RC BC OC ⊢
      clear hlast JA GC BA hO4 hb4 RB
      go_wp2_with fail
      refine bodyPost_ret (res_cxy Tryd.results65 (by rfl) RC Tryd.underlying27 rfl sizeNtp (by rfl) (by rfl) (by rfl)) rfl ?_
      exact ⟨A2, c2, rfl, (List.nil_append (l.drop 48) ▸ OC).wide (Nat.le_of_lt zR), BC⟩
end Go.Proofs.YtachhbbofemfdaaDoor
namespace Go.Proofs.YtachhbbofemfdaaDoor
open Go.RowKit
set_option linter.unusedSimpArgs false
set_option linter.unusedVariables false
set_option maxRecDepth 100000
abbrev rcF (k0 k1 k2 k3 N : Int) (x y : Value) : List Value := [.int .u64 k0, .int .u64 k1, .int .u64 k2, .int .u64 k3, x, .int .i64 N, y]
theorem rcF_set4 (k0 k1 k2 k3 N : Int) (x' x y : Value) : (rcF k0 k1 k2 k3 N x y).set 4 x' = rcF k0 k1 k2 k3 N x' y := rfl
abbrev RcX (w : World) (lo b g1 g2 : Nat) (k0 k1 k2 k3 : Int) (T : List CkT) (N : Int) (U : List CkT) (A : Option Addr) (n c : Nat) (A2 : Option Addr) (n2 c2 : Nat) : Prop := TwX w lo b g1 g2 107 (rcF k0 k1 k2 k3 N) 52 16 T U A n c A2 n2 c2
/-- the reference's client: its block, its blocks, its keys, cookies, number and waiting identifiers -/
def Rcl (w : World) (lo b : Nat) (G : List Nat) (k0 k1 k2 k3 : Int) (CK : List (List Int)) (N : Int) (I : List (List Int)) : Prop :=
  ∃ (g1 g2 : Nat) (T U : List CkT) (A : Option Addr) (n c : Nat) (A2 : Option Addr) (n2 c2 : Nat), G = [b, g1, g2] ∧ T.map (fun t : CkT => t.2.2) = CK ∧ U.map (fun t : CkT => t.2.2) = I ∧ RcX w lo b g1 g2 k0 k1 k2 k3 T N U A n c A2 n2 c2
section
variable {w w' : World} {lo b : Nat} {G : List Nat} {k0 k1 k2 k3 N : Int} {CK I : List (List Int)}
theorem Rcl.below (h : Rcl w lo b G k0 k1 k2 k3 CK N I) (hb : Below w.heap.size w w') : Rcl w' lo b G k0 k1 k2 k3 CK N I := by
  obtain ⟨g1, g2, T, U, A, n, c, A2, n2, c2, e1, e2, e3, h⟩ := h
  exact ⟨g1, g2, T, U, A, n, c, A2, n2, c2, e1, e2, e3, h.below hb (Nat.le_refl _)⟩
theorem Rcl.rng (h : Rcl w lo b G k0 k1 k2 k3 CK N I) : ∀ g ∈ G, lo ≤ g ∧ g < w.heap.size := by
  obtain ⟨g1, g2, T, U, A, n, c, A2, n2, c2, rfl, e2, e3, h⟩ := h
  exact h.rng
theorem Rcl.low {k : Nat} (h : Rcl w lo b G k0 k1 k2 k3 CK N I) (hk : k < lo) : k ∉ G := fun hm => by have := (h.rng k hm).1; omega
end
set_option maxRecDepth 100000 in
set_option maxHeartbeats 4000000 in
theorem rcnew_many (k0 k1 k2 k3 : Int) (B : Option Addr) (m d : Nat) (w : World) (hm : 8 < m) (hm2 : m ≤ 9223372036854775807) :
    Calls Tryd.prog 27 #[keyV k0 k1, keyV k2 k3, .slice B m d] w fun e w' => e = .returned (.pointer none) ∧ Below w.heap.size w w' := by
  have h8 : decide ((8 : Int) < m) = true := decide_eq_true (by omega)
  go_enter Tryd.func27, Tryd.ntmps27
  go_wp2_with (first
    | (refine wpl_box (by rfl) 29 _ (by rfl) _ (keyL k0 k1) (by rfl) rfl ?_; intro w1 P1 s1 b1)
    | ((refine wpl_box (by rfl) 29 _ (by rfl) _ (keyL k2 k3) (by rfl) rfl ?_; intro w2 Q2 s2 b2); (have P2 := P1.below b2 (by omega)))
    | (refine wpl_load (by rfl) 29 _ (by rfl) w.heap.size (by rfl) 29 _ P2 _ Tryd.underlying29 rfl _ sizeKey (by rfl) ?_)
    | (refine wpl_load (by rfl) 29 _ (by rfl) w1.heap.size (by rfl) 29 _ Q2 _ Tryd.underlying29 rfl _ sizeKey (by rfl) ?_)
    )
  go_ret
  exact ⟨rfl, b1.trans (b2.mono (by omega))⟩
set_option maxRecDepth 100000 in
set_option maxHeartbeats 16000000 in
theorem rcnew (k0 k1 k2 k3 : Int) (B : Option Addr) (m d : Nat) (M : List (List Int)) (w : World) (hm : m ≤ 8) (hM : M.length = m) (hL : Ls w w.heap.size B M) (hmd : m ≤ d) (h52 : ∀ l ∈ M, l.length = 52) :
    Calls Tryd.prog 27 #[keyV k0 k1, keyV k2 k3, .slice B m d] w fun e w' => ∃ b G, e = .returned (.pointer (some ⟨b, 0, none⟩)) ∧ Rcl w' w.heap.size b G k0 k1 k2 k3 M 0 [] ∧ Below w.heap.size w w' := by
  have h8 : decide ((8 : Int) < m) = false := decide_eq_false (by omega)
  go_enter Tryd.func27, Tryd.ntmps27
  go_wp2_with (first
    | (refine wpl_box (by rfl) 29 _ (by rfl) _ (keyL k0 k1) (by rfl) rfl ?_; intro w1 P1 s1 b1)
    | ((refine wpl_box (by rfl) 29 _ (by rfl) _ (keyL k2 k3) (by rfl) rfl ?_; intro w2 Q2 s2 b2); (have P2 := P1.below b2 (by omega)))
    | (refine wpl_load (by rfl) 29 _ (by rfl) w.heap.size (by rfl) 29 _ P2 _ Tryd.underlying29 rfl _ sizeKey (by rfl) ?_)
    | (refine wpl_load (by rfl) 29 _ (by rfl) w1.heap.size (by rfl) 29 _ Q2 _ Tryd.underlying29 rfl _ sizeKey (by rfl) ?_)
    | (refine wpl_box (by rfl) 107 _ (by rfl) _ (rcF k0 k1 k2 k3 0 (.slice none 0 0) (.slice none 0 0)) (by rfl) rfl ?_; intro w3 C3 s3 b3))
  have B3 : Below w.heap.size w w3 := (b1.trans (b2.mono (by omega))).trans (b3.mono (by omega))
  obtain ⟨b, hb⟩ : ∃ b, b = w2.heap.size := ⟨_, rfl⟩
  rw [← hb] at C3 ⊢
  have lob : w.heap.size ≤ b := by omega
  clear P1 P2 Q2 b1 b2 b3 s1 s2 s3 hb h8
  obtain ⟨lo, hlo⟩ : ∃ lo, lo = w.heap.size := ⟨_, rfl⟩
  rw [← hlo] at lob
  go_loopw [8] (fun i wr => ∃ k : Nat, k ≤ m ∧ i = .int .i64 k ∧ ∃ g1 T A n c, RcX wr lo b g1 b k0 k1 k2 k3 T 0 [] A n c none 0 0 ∧ Hid (T.map (·.2.2) = M.take k) ∧ Below w.heap.size w wr) (fun i _ => m - (intOf i).toNat)
  case atStart => exact ⟨0, by omega, rfl, b, [], none, 0, 0, TwX.new C3 lob, rfl, B3⟩
  case round =>
    obtain ⟨k, hk, rfl, g1, T, A, n, c, hC, hT, hB⟩ := hrel
    obtain ⟨wo, rfl⟩ : ∃ wo : World, wo = wr := ⟨wr, rfl⟩
    obtain ⟨g2, hg2⟩ : ∃ g2, g2 = b := ⟨_, rfl⟩
    have hC : RcX wo lo b g1 g2 k0 k1 k2 k3 T 0 [] A n c none 0 0 := by rw [hg2]; exact hC
    by_cases hlt : k < m
    · obtain ⟨bb, o, rfl, hbw, hx⟩ := (hL.below hB (Nat.le_refl _)) (by omega)
      obtain ⟨Ak, ck, e0, hBk0⟩ := hx k (by omega)
      have hBk := hBk0.wide (Nat.le_refl _) hB.size
      have hi0 : (0 : Int) ≤ k := by omega
      have hi1 : (k : Int) < m := by omega
      have hmem : M[k] ∈ M := List.getElem_mem (by omega)
      have htk : M.take (k + 1) = M.take k ++ [M[k]] := by rw [List.take_succ_eq_append_getElem (by omega)]
      have hl := h52 _ hmem
      generalize M[k] = l at e0 hBk hmem htk hl
      rw [hl] at e0
      clear hBk0 hx C3 B3
      have hbb : bb < wo.heap.size := by have := hB.size; omega
      have hbl : bb < lo := by omega
      have hn8 : n ≤ 8 := by have := hC.tn; have h2 := congrArg List.length hT.out; rw [List.length_map, List.length_take] at h2; omega
      have HT : Hid (T.map (·.2.2) ++ [l] = M.take (k + 1)) := by show _ = _; rw [htk, ← hT.out]
      clear hT htk
      go_wp2_with fail
      have hz0 : wo.drew.heap.size = wo.heap.size := rfl
      refine wp_region_S (fun y => y.cell? ⟨b, 4, none⟩ = some (.slice A n c) ∧ y.cell? ⟨bb, o + k, none⟩ = some (.slice Ak 52 ck)) 15 16 (by kernel_rfl) rfl ?_
      have hHeld : wo.drew.cell? ⟨b, 4, none⟩ = some (.slice A n c) ∧ (fun y : World => y.cell? ⟨bb, o + k, none⟩ = some (.slice Ak 52 ck)) wo.drew := ⟨hC.drew.blk.cell rfl, e0⟩
      simp only [List.replicate]
      (refine wpS_t 0 _ (by exact gE rfl) (by kernel_rfl) (by intro _ _ _ h; exact h) (Or.inl ⟨by rfl, (by intro _ h; (try dsimp only at h); go_simp; first | done | with_reducible rfl)⟩) (by assumption) ?_; (try simp only [Act.put, zs0, zs1, zs2])); (refine wpS_t 1 _ (by exact gE rfl) (by kernel_rfl) (by intro _ _ _ h; exact h) (Or.inl ⟨by rfl, (by intro _ h; (try dsimp only at h); go_simp; first | done | with_reducible rfl)⟩) (by assumption) ?_; (try simp only [Act.put, zs0, zs1, zs2])); (refine wpS_t 2 _ (by exact gE rfl) (by kernel_rfl) (by intro _ _ _ h; exact h) (Or.inl ⟨by rfl, (by intro _ h; (try dsimp only at h); go_simp; first | done | with_reducible rfl)⟩) (by assumption) ?_; (try simp only [Act.put, zs0, zs1, zs2])); (refine wpS_t 3 _ (by exact gE rfl) (by kernel_rfl) (by intro _ _ _ h; exact h) (Or.inl ⟨by rfl, (by intro _ h; (try dsimp only at h); go_simp; first | done | with_reducible rfl)⟩) (by assumption) ?_; (try simp only [Act.put, zs0, zs1, zs2])); (refine wpS_t 4 _ (by exact gE rfl) (by kernel_rfl) (by intro _ _ _ h; exact h) (Or.inl ⟨by rfl, (by intro _ h; (try dsimp only at h); go_simp; first | done | with_reducible rfl)⟩) (by assumption) ?_; (try simp only [Act.put, zs0, zs1, zs2])); (refine wpS_t 6 _ (by exact gE rfl) (by kernel_rfl) (by intro _ _ _ h; exact h) (Or.inl ⟨by rfl, (by intro _ h; (try dsimp only at h); go_simp; first | done | with_reducible rfl)⟩) (by assumption) ?_; (try simp only [Act.put, zs0, zs1, zs2])); (refine wpS_t 7 _ (by exact gE rfl) (by kernel_rfl) (by intro _ _ _ h; exact h) (Or.inl ⟨by rfl, (by intro _ h; (try dsimp only at h); go_simp; first | done | with_reducible rfl)⟩) (by assumption) ?_; (try simp only [Act.put, zs0, zs1, zs2])); (refine wpS_t 8 _ (by exact gE rfl) (by kernel_rfl) (by intro _ _ _ h; exact h) (Or.inl ⟨by rfl, (by intro _ h; (try dsimp only at h); go_simp; first | done | with_reducible rfl)⟩) (by assumption) ?_; (try simp only [Act.put, zs0, zs1, zs2])); (refine wpS_t 9 _ (by exact gE rfl) (by kernel_rfl) (by intro _ _ _ h; exact h) (Or.inl ⟨by rfl, (by intro _ h; (try dsimp only at h); go_simp; first | done | with_reducible rfl)⟩) (by assumption) ?_; (try simp only [Act.put, zs0, zs1, zs2]))
      obtain ⟨w1, hw1⟩ : ∃ w1, w1 = wo.drew.alloc (.cells #[] 5) := ⟨_, rfl⟩
      have b1 : Below wo.heap.size wo w1 := by rw [hw1]; exact ((Below.refl _ _).drew).alloc (Nat.le_refl _) _
      have N1 : Blk w1 wo.heap.size 5 [] := by rw [hw1]; exact Blk.new wo.drew 5 #[] [] rfl
      have hC1 := hC.below b1 (Nat.le_refl _)
      have e1 : (fun y : World => y.cell? ⟨bb, o + k, none⟩ = some (.slice Ak 52 ck)) w1 := kept_cell b1 e0 hbb
      (refine wpS_one (i := 5) (by exact gE rfl) (by kernel_rfl) (by rfl) ?_; (refine wp_buildEmpty 23 (by rfl) Tryd.underlying23 ?_; rw [← hw1]; refine ⟨⟨hC1.blk.cell rfl, e1⟩, ?_⟩); (try simp only [Act.put, zs0, zs1, zs2]))
      have hHeld1 : w1.cell? ⟨b, 4, none⟩ = some (.slice A n c) ∧ (fun y : World => y.cell? ⟨bb, o + k, none⟩ = some (.slice Ak 52 ck)) w1 := ⟨hC1.blk.cell rfl, e1⟩
      have z1 := N1.lt
      (refine wpS_one (i := 10) (by exact gE rfl) (by kernel_rfl) (by rfl) ?_; (refine wp_append_bs (.tmp 33) (.tmp 37) (by rfl) 0 0 52 ck (by rfl) (by rfl) rfl hl (ow_empty N1 (Nat.le_refl _)) (hBk.below b1 (Nat.le_refl _)) (by omega) (Nat.le_of_lt z1) ?_; intro A2 c2 w2 O2' b2'; have b2 : Below wo.heap.size wo w2 := b1.trans b2'; have hC2 := hC.below b2 (Nat.le_refl _); have e2 : (fun y : World => y.cell? ⟨bb, o + k, none⟩ = some (.slice Ak 52 ck)) w2 := kept_cell b2 e0 hbb; refine ⟨⟨hC2.blk.cell rfl, e2⟩, ?_⟩); (try simp only [Act.put, zs0, zs1, zs2]))
      have O2 : Ow w2 wo.heap.size A2 c2 l := by simpa using O2'
      obtain ⟨gk, rfl, hgk1, hgk2⟩ : ∃ gk, A2 = some ⟨gk, 0, none⟩ ∧ wo.heap.size ≤ gk ∧ gk < w2.heap.size := by
        rcases O2.form with ⟨_, e, _⟩ | ⟨g, q1, q2, q3⟩
        · rw [e] at hl; cases hl
        · exact ⟨g, q1, q2, q3⟩
      have hHeld2 : w2.cell? ⟨b, 4, none⟩ = some (.slice A n c) ∧ (fun y : World => y.cell? ⟨bb, o + k, none⟩ = some (.slice Ak 52 ck)) w2 := ⟨hC2.blk.cell rfl, e2⟩
      obtain ⟨w3, hw3⟩ : ∃ w3, w3 = w2.alloc (.cells #[.slice (some ⟨gk, 0, none⟩) 52 c2] 23) := ⟨_, rfl⟩
      have b3 : Below w2.heap.size w2 w3 := by rw [hw3]; exact (Below.refl _ _).alloc (Nat.le_refl _) _
      have N3 : Blk w3 w2.heap.size 23 [.slice (some ⟨gk, 0, none⟩) 52 c2] := by rw [hw3]; exact Blk.new w2 _ _ _ rfl
      have hC3 := hC2.below b3 (Nat.le_refl _)
      have O3 := O2.below b3 (Nat.le_refl _)
      have z3 := N3.lt
      have b03 : Below wo.heap.size wo w3 := b2.trans (b3.mono b2.size)
      have e3 : (fun y : World => y.cell? ⟨bb, o + k, none⟩ = some (.slice Ak 52 ck)) w3 := kept_cell b03 e0 hbb
      (refine wpS_one (i := 11) (by exact gE rfl) (by kernel_rfl) (by rfl) ?_; (go_simp; rw [← hw3]; refine ⟨⟨hC3.blk.cell rfl, e3⟩, ?_⟩); (try simp only [Act.put, zs0, zs1, zs2]))
      have hb3 : b ∉ fp c g1 := fun hm => by
        obtain ⟨hc, e⟩ := fp_mem hm
        exact (hC3.cs.lt hc (by omega)).2 (by rw [← e]; simp)
      have hbf : bb ∉ fp c g1 := fun hm => by
        obtain ⟨hc, e⟩ := fp_mem hm
        have := hC.lo1
        omega
      (refine wpS_one (i := 12) (by exact gE rfl) (by kernel_rfl) (by rfl) ?_; (refine wp_append_rw 51 23 (.slice none 0 0) 24 (.tmp 32) (.tmp 39) (by rfl) Tryd.underlying51 infoSl (by rfl) (by omega) (by rfl) hC3.cs ⟨w2.heap.size, 0, none⟩ 1 1 [.slice (some ⟨gk, 0, none⟩) 52 c2] (by rfl) rfl (by omega) (cells2_of N3) (by simp [Value.oneCell']) (by omega) (by omega) (by have := hC3.blk.lt; have := hC3.lt2; simp; omega) ?_; intro g4 A4 c4 w4 R4 K4 G4 L4; refine ⟨⟨(K4.blk hC3.blk hb3).cell rfl, (World.cell?_of_block (K4.block bb (by have := b03.size; omega) hbf)).trans e3⟩, ?_⟩); (try simp only [Act.put, zs0, zs1, zs2]))
      have J4 := K4.blk hC3.blk hb3
      obtain ⟨w5, hw5⟩ : ∃ w5, w5 = w4.setCell ⟨b, 4, none⟩ (.slice A4 (n + 1) c4) := ⟨_, rfl⟩
      have hHeld4 : w4.cell? ⟨b, 4, none⟩ = some (.slice A n c) ∧ (fun y : World => y.cell? ⟨bb, o + k, none⟩ = some (.slice Ak 52 ck)) w4 := ⟨J4.cell rfl, (World.cell?_of_block (K4.block bb (by have := b03.size; omega) hbf)).trans e3⟩
      (refine wpS_one (i := 13) (by exact gE rfl) (by kernel_rfl) (by rfl) ?_; (go_simp; (try refine ⟨hHeld4, ?_⟩)); (try simp only [Act.put, zs0, zs1, zs2])); (refine wpS_one (i := 14) (by exact gE rfl) (by kernel_rfl) (by rfl) ?_; (go_simp; (try refine ⟨hHeld4, ?_⟩)); (try simp only [Act.put, zs0, zs1, zs2]))
      (refine wpS_st (i := 15) (by exact gE rfl) (by kernel_rfl) (by rfl) (by kernel_rfl) ?_; (refine wp_storef1 51 (.tmp 42) (.tmp 40) (by rfl) b 4 (by rfl) (.slice A4 (n + 1) c4) (by rfl) (by rfl) (by simp [Value.oneCell']) 107 _ J4 (show 4 < 7 by omega) sizeSls ?_; rw [← hw5]); (try simp only [Act.put, zs0, zs1, zs2]))
      refine wpS_done (by kernel_rfl) ?_ _
      obtain ⟨hC5, hK5, z5⟩ := hC3.push (i := 4) (u := (gk, c2, l)) (rcF_set4 _ _ _ _ _) (O3.wide (by have := hC.lob; have := hC.blk.lt; show lo ≤ wo.heap.size; omega)) hl (by have := hC.blk.lt; have := hC.lt1; have := hC.lt2; show gk ∉ _; simp; omega) (by show Rw w4 1 g4 [b, g2] A4 (n + 1) c4 (T.map ckV ++ [ckV (gk, c2, l)]); unfold ckV; rw [hl]; exact R4) K4 G4 L4 hw5
      have B3 : Below w.heap.size w w3 := hB.trans (b03.mono hB.size)
      have B5 : Below w.heap.size w w5 := hK5.toBelow B3 B3.size (fun g hg => by
        have q1 := hC3.lob
        have q2 := hC3.lo1
        have q3 : g = b ∨ g = g1 := by simpa using hg
        omega)
      have HT' : Hid ((T ++ [(gk, c2, l)]).map (fun t : CkT => t.2.2) = M.take (k + 1)) := by show _ = _; rw [List.map_append]; exact HT.out
      rw [hg2] at hC5
      clear hC hC1 hC2 hC3 hK5 B3 O2 O3 b1 b2 b3 b03 J4 K4 R4 N1 N3 hBk hHeld hHeld1 hHeld2 hHeld4 hB HT hw1 hw3 hw5
      go_wp2_with fail
      exact ⟨⟨k + 1, by omega, by go_num, g4, _, A4, n + 1, c4, hC5, HT', B5⟩, by simp [intOf]; omega⟩
    · obtain rfl : k = m := by omega
      have hT' := hT.out
      rw [List.take_of_length_le (by omega)] at hT'
      go_wp2
      go_ret
      have hC : RcX wo lo b g1 b k0 k1 k2 k3 T 0 [] A n c none 0 0 := by rw [hg2] at hC; exact hC
      exact ⟨b, [b, g1, b], rfl, hlo ▸ ⟨g1, b, T, [], A, n, c, none, 0, 0, rfl, hT', rfl, hC⟩, hB⟩
theorem rccount {w : World} {lo b : Nat} {G : List Nat} {k0 k1 k2 k3 N : Int} {CK I : List (List Int)} (h : Rcl w lo b G k0 k1 k2 k3 CK N I) :
    Calls Tryd.prog 29 #[.pointer (some ⟨b, 0, none⟩)] w fun e w' => e = .returned (.int .i64 CK.length) ∧ w = w' := by
  obtain ⟨g1, g2, T, U, A, n, c, A2, n2, c2, rfl, rfl, rfl, h⟩ := h
  rw [List.length_map, h.tn]
  have c4 := h.blk.cell (i := 4) rfl
  go_enter Tryd.func29, Tryd.ntmps29
  go_wp2
  go_ret
  exact ⟨rfl, rfl⟩
theorem rccount_nil (w : World) : Calls Tryd.prog 29 #[.pointer none] w fun e w' => e = .returned (.int .i64 0) ∧ w = w' := by
  go_enter Tryd.func29, Tryd.ntmps29
  go_wp2
  go_ret
  exact ⟨rfl, rfl⟩
end Go.Proofs.YtachhbbofemfdaaDoor
namespace Go.Proofs.YtachhbbofemfdaaDoor
open Go.RowKit
set_option linter.unusedSimpArgs false
set_option linter.unusedVariables false
set_option maxRecDepth 100000
/-- a result in memory, and four more -/
theorem res_c4 {P : Program} {w : World} {fn : Func} {tmps : Array Value} {c x y z t : Tmp} {T T' : TypeId} (h : fn.results = #[.cell c T, .tmp x, .tmp y, .tmp z, .tmp t]) {g : Nat} {cs : List Value} {d : TypeDesc} (hp : tmps.getD c undef = .pointer (some ⟨g, 0, none⟩)) (hB : Blk w g T' cs) (hu : P.underlying T = some d) (hd : d.isRow = true) {n : Nat} (hi : (P.info? T).map (·.size) = some n) (hn : cs.length = n) {v1 v2 v3 v4 : Value} (hv1 : tmps.getD x undef = v1) (hv2 : tmps.getD y undef = v2) (hv3 : tmps.getD z undef = v3) (hv4 : tmps.getD t undef = v4) :
    (results fn tmps).run P w = .ok (.tuple #[.agg cs.toArray, v1, v2, v3, v4]) w := by
  have hl := load_res hB hu hd hi hn
  subst hv1 hv2 hv3 hv4
  rw [Array.getD_eq_getD_getElem?] at hp
  simp [results, h, hp, asAddr, Sem.run_bind, hl]
theorem rdecode_u (A : Option Addr) (n c : Nat) (b : List Int) (w : World) (hn : b.length = n) (h : Bs w 0 w.heap.size A b) (hnc : n ≤ c) (hm : n ≤ 1000000) :
    Calls Tryd.prog 65 #[.slice A n c] w fun e w' => ∃ A' c' N, e = .returned (.tuple #[dcV b, .slice A' N c', .int .i64 (dcE b)]) ∧ (dcR b).length = N ∧ Ow w' w.heap.size A' c' (dcR b) ∧ Below w.heap.size w w' := by
  by_cases h48 : n < 48
  · have e : dcE b = 5 := by unfold dcE; rw [if_pos (by omega)]
    refine (rdecode_short A n c w h48).mono fun r w' ⟨h1, h2⟩ => ⟨none, 0, 0, ?_, ?_, ?_, h2⟩
    · rw [h1]; unfold dcV; rw [e]; simp only [z0_no (show (5 : Int) ≠ 0 by decide)]
    · unfold dcR; rw [e]; rfl
    · unfold dcR; rw [e]; exact Ow.nil _ _
  · by_cases hv : 1 ≤ fB b 0 1 / 8 % 8 ∧ fB b 0 1 / 8 % 8 ≤ 4
    · have e : dcE b = 0 := by unfold dcE; rw [if_neg (by omega), if_pos hv]
      refine (rdecode_ok A n c b w hn h hnc (by omega) (by omega) (fB b 0 1) rfl hv).mono fun r w' ⟨A', c', h1, h2, h3⟩ => ⟨A', c', n - 48, ?_, ?_, ?_, h3⟩
      · rw [h1]; unfold dcV; rw [e]; simp only [z0_zero]
      · unfold dcR; rw [if_pos e, List.length_drop, hn]
      · unfold dcR; rw [if_pos e]; exact h2
    · have e : dcE b = 8 := by unfold dcE; rw [if_neg (by omega), if_neg hv]
      refine (rdecode_kind A n c b w hn h (by omega) (fB b 0 1) rfl hv).mono fun r w' ⟨h1, h2⟩ => ⟨none, 0, 0, ?_, ?_, ?_, h2⟩
      · rw [h1]; unfold dcV; rw [e]; simp only [z0_no (show (8 : Int) ≠ 0 by decide)]
      · unfold dcR; rw [e]; rfl
      · unfold dcR; rw [e]; exact Ow.nil _ _
set_option maxRecDepth 100000 in
set_option maxHeartbeats 8000000 in
theorem rread_err (A : Option Addr) (n c : Nat) (b : List Int) (w : World) (hn : b.length = n) (h : Bs w 0 w.heap.size A b) (hnc : n ≤ c) (hc : c ≤ 9223372036854775807) (hm : n ≤ 1000000) (hE : spE b ≠ 0) :
    Calls Tryd.prog 35 #[.slice A n c] w fun e w' => e = .returned (.tuple #[ntp0, .slice none 0 0, .slice none 0 0, .slice none 0 0, .int .i64 (spE b)]) ∧ Below w.heap.size w w' := by
  have hD := fun W hB => rdecode_u A n c b W hn hB hnc hm
  have hRn := dcR_len hn
  have hRb : Byt (dcR b) := by unfold dcR; split; exact h.byt.drop _; exact Byt.nil
  have hP := fun W A c N hN hB hc hcc => parse_u (rparse_any A N c (dcR b) W hN hB hc hcc (by omega))
  have hsz := fun k => dt_small hRb (k := k)
  have hF := fun W A c N hN hX hc hcc => rfind_u A c (prsL (dcR b)) N 260 W hN hX hc hcc (fun k _ => Nat.le_trans (hsz k) (by omega))
  obtain ⟨l, v, m, st, po, pr, rd, rp, id, ref, org, rec, xmt, hV, _, _⟩ := dcV_form b
  rw [hV] at hD
  rcases spE_cases b with ⟨h1, h2⟩ | ⟨h1, h2, h3⟩ | ⟨h1, h2, h3, h4⟩ | ⟨h1, h2, h3, h4, h5⟩
  · rw [h2]
    have d1 : (dcE b != 0) = true := by simpa using h1
    obtain ⟨R, hR⟩ : ∃ R, R = dcR b := ⟨_, rfl⟩
    obtain ⟨LL, hLL⟩ : ∃ LL, LL = prsL R := ⟨_, rfl⟩
    obtain ⟨AA, hAA⟩ : ∃ AA, AA = prsA R := ⟨_, rfl⟩
    rw [← hR] at hRn
    rw [← hR, ← hLL] at hF
    rw [← hR] at hP
    rw [← hR] at hD
    simp only [← hLL, ← hAA] at hP
    obtain ⟨E, hE'⟩ : ∃ E, E = dcE b := ⟨_, rfl⟩
    rw [← hE'] at hD d1 ⊢
    clear hV h1 h2 hE hE' hR hLL hAA hP hF
    go_enter Tryd.func35, Tryd.ntmps35
    go_wp2_with (first
      | ((refine wpl_alloc (by rfl) 27 (by rfl) (.agg (zN).toArray) (zN) zeroNtp rfl ?_; intro w3 J3 s3 b3); (have T3 := T2.below b3 (by omega)); (have O3 := O2.below b3 (Nat.le_refl _)))
      | ((refine wpl_alloc (by rfl) 27 (by rfl) (.agg (zN).toArray) (zN) zeroNtp rfl ?_; intro w1 T1 s1 b1))
      | (go_at_call 65; ((with_reducible refine (hD _ ((h.below b1 (Nat.le_refl _)).wide (Nat.le_refl _) b1.size)).mono ?_); rintro e w2 ⟨A2, c2, N2, rfl, hN2, O2, b2⟩; (have T2 := T1.below b2 (by omega)); (have z2 := b2.size)))
      | ((refine wpl_store (by rfl) 27 _ _ (by rfl) w2.heap.size (by rfl) _ (by rfl) _ rfl 27 _ J3 (by rfl) _ sizeNtp (by rfl) (by simp [Value.oneCell']) ?_; intro w4 J4 s4 g4); (have T4 := T3.but g4 (by omega)); (have O4 := O3.grown g4 (fun g e => by have := O2.blt g e; simp; omega)); (have hc2 := O2.cap_le); (have hcc2 := O2.cap_max); rw [hN2] at hc2; (have B4 := ((b1.trans (b2.mono (by omega))).trans (b3.mono (by omega))).trans (g4.below (B := w.heap.size) (by omega) (by omega))))
      | ((refine wpl_store (by rfl) 27 _ _ (by rfl) w.heap.size (by rfl) _ (by rfl) _ rfl 27 _ T4 (by rfl) _ sizeNtp (by rfl) (by simp [Value.oneCell']) ?_; intro w5 T5 s5 g5))
      )
    refine bodyPost_ret (res_c4 Tryd.results35 (by rfl) T5 Tryd.underlying27 rfl sizeNtp (by rfl) (by rfl) (by rfl) (by rfl) (by rfl)) rfl ?_
    exact ⟨rfl, B4.trans (g5.below B4.size (Nat.le_refl _))⟩
  · rw [h3]
    have d2 : (prsE (dcR b) != 0) = true := by simpa using h2
    rw [h1] at hD
    obtain ⟨R, hR⟩ : ∃ R, R = dcR b := ⟨_, rfl⟩
    obtain ⟨LL, hLL⟩ : ∃ LL, LL = prsL R := ⟨_, rfl⟩
    obtain ⟨AA, hAA⟩ : ∃ AA, AA = prsA R := ⟨_, rfl⟩
    rw [← hR] at hRn
    rw [← hR, ← hLL] at hF
    rw [← hR] at hP
    rw [← hR] at hD
    simp only [← hLL, ← hAA] at hP
    obtain ⟨E, hE'⟩ : ∃ E, E = prsE (dcR b) := ⟨_, rfl⟩
    rw [← hE'] at d2 ⊢
    rw [← hR] at hE'
    simp only [← hE'] at hP
    generalize hII : fdD LL 260 = II at hF
    generalize hIBB : fdB LL 260 = IB at hF
    obtain ⟨N7, hN7⟩ : ∃ N, AA.length = N := ⟨_, rfl⟩
    obtain ⟨N9, hN9⟩ : ∃ N, II.length = N := ⟨_, rfl⟩
    have hP' : ∀ (W : World) (A : Option Addr) (c N : Nat), R.length = N → Bs W 0 W.heap.size A R → N ≤ c → c ≤ 9223372036854775807 → Calls Tryd.prog 66 #[.slice A N c] W fun e w' => ∃ A1 c1 n1 A2 c2, e = .returned (.tuple #[.slice A1 n1 c1, .slice A2 N7 c2, .int .i64 E]) ∧ LL.length = n1 ∧ XO w' W.heap.size A1 c1 LL ∧ Ow w' W.heap.size A2 c2 AA ∧ Below W.heap.size W w' := fun W A c N q1 q2 q3 q4 => (hP W A c N q1 q2 q3 q4).mono fun e w' ⟨A1, c1, n1, A2, c2, n2, e1, e2, e3, e4⟩ => by
      obtain rfl : N7 = n2 := hN7.symm.trans e3
      exact ⟨A1, c1, n1, A2, c2, e1, e2, e4⟩
    have hF' : ∀ (W : World) (A : Option Addr) (c N : Nat), LL.length = N → Xs W W.heap.size A LL → N ≤ c → c ≤ 9223372036854775807 → Calls Tryd.prog 36 #[.slice A N c, .int .i64 260] W fun e w' => ∃ A' c', e = .returned (.tuple #[.slice A' N9 c', .bool IB]) ∧ Ow w' W.heap.size A' c' II ∧ Below W.heap.size W w' := fun W A c N q1 q2 q3 q4 => (hF W A c N q1 q2 q3 q4).mono fun e w' ⟨A1, c1, n1, e1, e2, e3⟩ => by
      obtain rfl : N9 = n1 := hN9.symm.trans e2
      exact ⟨A1, c1, e1, e3⟩
    clear hP hF
    clear hV h1 h2 h3 hE hE' hR hLL hAA hF' hII hIBB
    go_enter Tryd.func35, Tryd.ntmps35
    go_wp2_with (first
      | ((refine wpl_alloc (by rfl) 27 (by rfl) (.agg (zN).toArray) (zN) zeroNtp rfl ?_; intro w3 J3 s3 b3); (have T3 := T2.below b3 (by omega)); (have O3 := O2.below b3 (Nat.le_refl _)))
      | ((refine wpl_alloc (by rfl) 27 (by rfl) (.agg (zN).toArray) (zN) zeroNtp rfl ?_; intro w1 T1 s1 b1))
      | (go_at_call 65; ((with_reducible refine (hD _ ((h.below b1 (Nat.le_refl _)).wide (Nat.le_refl _) b1.size)).mono ?_); rintro e w2 ⟨A2, c2, N2, rfl, hN2, O2, b2⟩; (have T2 := T1.below b2 (by omega)); (have z2 := b2.size)))
      | ((refine wpl_store (by rfl) 27 _ _ (by rfl) w2.heap.size (by rfl) _ (by rfl) _ rfl 27 _ J3 (by rfl) _ sizeNtp (by rfl) (by simp [Value.oneCell']) ?_; intro w4 J4 s4 g4); (have T4 := T3.but g4 (by omega)); (have O4 := O3.grown g4 (fun g e => by have := O2.blt g e; simp; omega)); (have hc2 := O2.cap_le); (have hcc2 := O2.cap_max); rw [hN2] at hc2; (have B4 := ((b1.trans (b2.mono (by omega))).trans (b3.mono (by omega))).trans (g4.below (B := w.heap.size) (by omega) (by omega))))
      | ((refine wpl_store (by rfl) 27 _ _ (by rfl) w.heap.size (by rfl) _ (by rfl) _ rfl 27 _ T4 (by rfl) _ sizeNtp (by rfl) (by simp [Value.oneCell']) ?_; intro w5 T5 s5 g5))
      | (go_at_call 66; ((with_reducible refine (hP' _ _ _ _ hN2 (O4.bs.wide (Nat.zero_le _) (Nat.le_refl _)) hc2 hcc2).mono ?_); rintro e w6 ⟨A6, c6, n6, A7, c7, rfl, h6, X6, O7, b6⟩; (have k6 := X6.cap); rw [h6] at k6; (have T6 := T4.below b6 (by have := T4.lt; omega)); (have J6 := J4.below b6 (by have := J4.lt; omega)); (have B6 := B4.trans (b6.mono B4.size)); (have z6 := b6.size)))
      | ((refine wpl_store (by rfl) 27 _ _ (by rfl) w.heap.size (by rfl) _ (by rfl) _ rfl 27 _ T6 (by rfl) _ sizeNtp (by rfl) (by simp [Value.oneCell']) ?_; intro w8 T8 s8 g8))
      | (go_at_call 36; ((with_reducible refine (hF' _ _ _ _ h6 X6.xs k6.1 k6.2.1).mono ?_); rintro e w9 ⟨A9, c9, rfl, O9, b9⟩; (have T9 := T6.below b9 T6.lt); (have J9 := J6.below b9 J6.lt); (have B9 := B6.trans (b9.mono B6.size)); (have z9 := b9.size)))
      | ((refine wpl_store (by rfl) 27 _ _ (by rfl) w.heap.size (by rfl) _ (by rfl) _ rfl 27 _ T9 (by rfl) _ sizeNtp (by rfl) (by simp [Value.oneCell']) ?_; intro w10 T10 s10 g10)))
    refine bodyPost_ret (res_c4 Tryd.results35 (by rfl) T8 Tryd.underlying27 rfl sizeNtp (by rfl) (by rfl) (by rfl) (by rfl) (by rfl)) rfl ?_
    exact ⟨rfl, B6.trans (g8.below B6.size (Nat.le_refl _))⟩
  · rw [h4]
    rw [h1] at hD
    have hA0 : spA b = [] ∨ (spA b).length = 12 := ((prs_back hRb).1 h2).2.2.2
    have hA0' : (spA b).length = 0 ∨ (spA b).length = 12 := hA0.imp (fun e => by rw [e]; rfl) (fun e => e)
    obtain ⟨R, hR⟩ : ∃ R, R = dcR b := ⟨_, rfl⟩
    obtain ⟨LL, hLL⟩ : ∃ LL, LL = prsL R := ⟨_, rfl⟩
    obtain ⟨AA, hAA⟩ : ∃ AA, AA = prsA R := ⟨_, rfl⟩
    rw [← hR] at hRn
    rw [← hR, ← hLL] at hF
    rw [← hR] at hP
    rw [← hR] at hD
    simp only [← hLL, ← hAA] at hP
    rw [← hR] at h2
    simp only [h2] at hP
    have HI : ¬(AA.length = 12 ∧ (fdD LL 260).length = 16) := by rw [hAA, hLL, hR]; exact h3
    have HA : AA.length = 0 ∨ AA.length = 12 := by rw [hAA, hR]; exact hA0'
    generalize hII : fdD LL 260 = II at hF
    generalize hIBB : fdB LL 260 = IB at hF
    obtain ⟨N7, hN7⟩ : ∃ N, AA.length = N := ⟨_, rfl⟩
    obtain ⟨N9, hN9⟩ : ∃ N, II.length = N := ⟨_, rfl⟩
    have hP' : ∀ (W : World) (A : Option Addr) (c N : Nat), R.length = N → Bs W 0 W.heap.size A R → N ≤ c → c ≤ 9223372036854775807 → Calls Tryd.prog 66 #[.slice A N c] W fun e w' => ∃ A1 c1 n1 A2 c2, e = .returned (.tuple #[.slice A1 n1 c1, .slice A2 N7 c2, .int .i64 0]) ∧ LL.length = n1 ∧ XO w' W.heap.size A1 c1 LL ∧ Ow w' W.heap.size A2 c2 AA ∧ Below W.heap.size W w' := fun W A c N q1 q2 q3 q4 => (hP W A c N q1 q2 q3 q4).mono fun e w' ⟨A1, c1, n1, A2, c2, n2, e1, e2, e3, e4⟩ => by
      obtain rfl : N7 = n2 := hN7.symm.trans e3
      exact ⟨A1, c1, n1, A2, c2, e1, e2, e4⟩
    have hF' : ∀ (W : World) (A : Option Addr) (c N : Nat), LL.length = N → Xs W W.heap.size A LL → N ≤ c → c ≤ 9223372036854775807 → Calls Tryd.prog 36 #[.slice A N c, .int .i64 260] W fun e w' => ∃ A' c', e = .returned (.tuple #[.slice A' N9 c', .bool IB]) ∧ Ow w' W.heap.size A' c' II ∧ Below W.heap.size W w' := fun W A c N q1 q2 q3 q4 => (hF W A c N q1 q2 q3 q4).mono fun e w' ⟨A1, c1, n1, e1, e2, e3⟩ => by
      obtain rfl : N9 = n1 := hN9.symm.trans e2
      exact ⟨A1, c1, e1, e3⟩
    clear hP hF
    rw [hII, hN7, hN9] at HI
    rw [hN7] at HA
    have hcase : N7 = 0 ∨ (N7 = 12 ∧ N9 ≠ 16) := by
      rcases HA with q1 | q1
      · exact .inl q1
      · exact .inr ⟨q1, fun q2 => HI ⟨q1, q2⟩⟩
    clear HI HA hA0 hA0' hV h1 h2 h3 h4 hE hR hLL hAA hII hIBB hN7
    rcases hcase with q1 | ⟨q1, q2⟩
    · subst q1
      clear hN9
      go_enter Tryd.func35, Tryd.ntmps35
      go_wp2_with (first
        | ((refine wpl_alloc (by rfl) 27 (by rfl) (.agg (zN).toArray) (zN) zeroNtp rfl ?_; intro w3 J3 s3 b3); (have T3 := T2.below b3 (by omega)); (have O3 := O2.below b3 (Nat.le_refl _)))
        | ((refine wpl_alloc (by rfl) 27 (by rfl) (.agg (zN).toArray) (zN) zeroNtp rfl ?_; intro w1 T1 s1 b1))
        | (go_at_call 65; ((with_reducible refine (hD _ ((h.below b1 (Nat.le_refl _)).wide (Nat.le_refl _) b1.size)).mono ?_); rintro e w2 ⟨A2, c2, N2, rfl, hN2, O2, b2⟩; (have T2 := T1.below b2 (by omega)); (have z2 := b2.size)))
        | ((refine wpl_store (by rfl) 27 _ _ (by rfl) w2.heap.size (by rfl) _ (by rfl) _ rfl 27 _ J3 (by rfl) _ sizeNtp (by rfl) (by simp [Value.oneCell']) ?_; intro w4 J4 s4 g4); (have T4 := T3.but g4 (by omega)); (have O4 := O3.grown g4 (fun g e => by have := O2.blt g e; simp; omega)); (have hc2 := O2.cap_le); (have hcc2 := O2.cap_max); rw [hN2] at hc2; (have B4 := ((b1.trans (b2.mono (by omega))).trans (b3.mono (by omega))).trans (g4.below (B := w.heap.size) (by omega) (by omega))))
        | ((refine wpl_store (by rfl) 27 _ _ (by rfl) w.heap.size (by rfl) _ (by rfl) _ rfl 27 _ T4 (by rfl) _ sizeNtp (by rfl) (by simp [Value.oneCell']) ?_; intro w5 T5 s5 g5))
        | (go_at_call 66; ((with_reducible refine (hP' _ _ _ _ hN2 (O4.bs.wide (Nat.zero_le _) (Nat.le_refl _)) hc2 hcc2).mono ?_); rintro e w6 ⟨A6, c6, n6, A7, c7, rfl, h6, X6, O7, b6⟩; (have k6 := X6.cap); rw [h6] at k6; (have T6 := T4.below b6 (by have := T4.lt; omega)); (have J6 := J4.below b6 (by have := J4.lt; omega)); (have B6 := B4.trans (b6.mono B4.size)); (have z6 := b6.size)))
        | ((refine wpl_store (by rfl) 27 _ _ (by rfl) w.heap.size (by rfl) _ (by rfl) _ rfl 27 _ T6 (by rfl) _ sizeNtp (by rfl) (by simp [Value.oneCell']) ?_; intro w8 T8 s8 g8))
        | (go_at_call 36; ((with_reducible refine (hF' _ _ _ _ h6 X6.xs k6.1 k6.2.1).mono ?_); rintro e w9 ⟨A9, c9, rfl, O9, b9⟩; (have T9 := T6.below b9 T6.lt); (have J9 := J6.below b9 J6.lt); (have B9 := B6.trans (b9.mono B6.size)); (have z9 := b9.size)))
        | ((refine wpl_store (by rfl) 27 _ _ (by rfl) w.heap.size (by rfl) _ (by rfl) _ rfl 27 _ T9 (by rfl) _ sizeNtp (by rfl) (by simp [Value.oneCell']) ?_; intro w10 T10 s10 g10)))
      refine bodyPost_ret (res_c4 Tryd.results35 (by rfl) T10 Tryd.underlying27 rfl sizeNtp (by rfl) (by rfl) (by rfl) (by rfl) (by rfl)) rfl ?_
      exact ⟨rfl, B9.trans (g10.below B9.size (Nat.le_refl _))⟩
    · subst q1
      have d9 : ((N9 : Int) != 16) = true := by simp; omega
      clear q2 hN9
      go_enter Tryd.func35, Tryd.ntmps35
      go_wp2_with (first
        | ((refine wpl_alloc (by rfl) 27 (by rfl) (.agg (zN).toArray) (zN) zeroNtp rfl ?_; intro w3 J3 s3 b3); (have T3 := T2.below b3 (by omega)); (have O3 := O2.below b3 (Nat.le_refl _)))
        | ((refine wpl_alloc (by rfl) 27 (by rfl) (.agg (zN).toArray) (zN) zeroNtp rfl ?_; intro w1 T1 s1 b1))
        | (go_at_call 65; ((with_reducible refine (hD _ ((h.below b1 (Nat.le_refl _)).wide (Nat.le_refl _) b1.size)).mono ?_); rintro e w2 ⟨A2, c2, N2, rfl, hN2, O2, b2⟩; (have T2 := T1.below b2 (by omega)); (have z2 := b2.size)))
        | ((refine wpl_store (by rfl) 27 _ _ (by rfl) w2.heap.size (by rfl) _ (by rfl) _ rfl 27 _ J3 (by rfl) _ sizeNtp (by rfl) (by simp [Value.oneCell']) ?_; intro w4 J4 s4 g4); (have T4 := T3.but g4 (by omega)); (have O4 := O3.grown g4 (fun g e => by have := O2.blt g e; simp; omega)); (have hc2 := O2.cap_le); (have hcc2 := O2.cap_max); rw [hN2] at hc2; (have B4 := ((b1.trans (b2.mono (by omega))).trans (b3.mono (by omega))).trans (g4.below (B := w.heap.size) (by omega) (by omega))))
        | ((refine wpl_store (by rfl) 27 _ _ (by rfl) w.heap.size (by rfl) _ (by rfl) _ rfl 27 _ T4 (by rfl) _ sizeNtp (by rfl) (by simp [Value.oneCell']) ?_; intro w5 T5 s5 g5))
        | (go_at_call 66; ((with_reducible refine (hP' _ _ _ _ hN2 (O4.bs.wide (Nat.zero_le _) (Nat.le_refl _)) hc2 hcc2).mono ?_); rintro e w6 ⟨A6, c6, n6, A7, c7, rfl, h6, X6, O7, b6⟩; (have k6 := X6.cap); rw [h6] at k6; (have T6 := T4.below b6 (by have := T4.lt; omega)); (have J6 := J4.below b6 (by have := J4.lt; omega)); (have B6 := B4.trans (b6.mono B4.size)); (have z6 := b6.size)))
        | ((refine wpl_store (by rfl) 27 _ _ (by rfl) w.heap.size (by rfl) _ (by rfl) _ rfl 27 _ T6 (by rfl) _ sizeNtp (by rfl) (by simp [Value.oneCell']) ?_; intro w8 T8 s8 g8))
        | (go_at_call 36; ((with_reducible refine (hF' _ _ _ _ h6 X6.xs k6.1 k6.2.1).mono ?_); rintro e w9 ⟨A9, c9, rfl, O9, b9⟩; (have T9 := T6.below b9 T6.lt); (have J9 := J6.below b9 J6.lt); (have B9 := B6.trans (b9.mono B6.size)); (have z9 := b9.size)))
        | ((refine wpl_store (by rfl) 27 _ _ (by rfl) w.heap.size (by rfl) _ (by rfl) _ rfl 27 _ T9 (by rfl) _ sizeNtp (by rfl) (by simp [Value.oneCell']) ?_; intro w10 T10 s10 g10)))
      refine bodyPost_ret (res_c4 Tryd.results35 (by rfl) T10 Tryd.underlying27 rfl sizeNtp (by rfl) (by rfl) (by rfl) (by rfl) (by rfl)) rfl ?_
      exact ⟨rfl, B9.trans (g10.below B9.size (Nat.le_refl _))⟩
  · exact absurd h5 hE
set_option maxRecDepth 100000 in
set_option maxHeartbeats 8000000 in
theorem rread_ok (A : Option Addr) (n c : Nat) (b : List Int) (w : World) (hn : b.length = n) (h : Bs w 0 w.heap.size A b) (hnc : n ≤ c) (hc : c ≤ 9223372036854775807) (hm : n ≤ 1000000) (hE : spE b = 0) (l v m st po pr rd rp id ref org rec xmt : Int) (hV : dcV b = ntp l v m st po pr rd rp id ref org rec xmt) :
    Calls Tryd.prog 35 #[.slice A n c] w fun e w' => ∃ A1 n1 c1 A2 c2 A4 c4, e = .returned (.tuple #[ntp l v m st po pr rd rp id ref org rec xmt, .slice A1 n1 c1, .slice A4 12 c4, .slice A2 16 c2, .int .i64 0]) ∧ (spL b).length = n1 ∧ XO w' w.heap.size A1 c1 (spL b) ∧ Ow w' w.heap.size A2 c2 (spI b) ∧ Ow w' w.heap.size A4 c4 (spA b) ∧ Below w.heap.size w w' := by
  have hD := fun W hB => rdecode_u A n c b W hn hB hnc hm
  have hRn := dcR_len hn
  have hRb : Byt (dcR b) := by unfold dcR; split; exact h.byt.drop _; exact Byt.nil
  have hP := fun W A c N hN hB hc hcc => parse_u (rparse_any A N c (dcR b) W hN hB hc hcc (by omega))
  have hsz := fun k => dt_small hRb (k := k)
  have hF := fun W A c N hN hX hc hcc => rfind_u A c (prsL (dcR b)) N 260 W hN hX hc hcc (fun k _ => Nat.le_trans (hsz k) (by omega))
  rw [hV] at hD
  rcases spE_cases b with ⟨h1, h2⟩ | ⟨h1, h2, h3⟩ | ⟨h1, h2, h3, h4⟩ | ⟨h1, h2, h3, h4, h5⟩
  · exact absurd (h2.symm.trans hE) h1
  · exact absurd (h3.symm.trans hE) h2
  · rw [h4] at hE; cases hE
  · have eI : spI b = fdD (prsL (dcR b)) 260 := rfl
    have eA : spA b = prsA (dcR b) := rfl
    have eL : spL b = prsL (dcR b) := rfl
    rw [eI] at h4
    rw [eA] at h3
    rw [eI, eA, eL]
    rw [h1] at hD
    obtain ⟨R, hR⟩ : ∃ R, R = dcR b := ⟨_, rfl⟩
    obtain ⟨LL, hLL⟩ : ∃ LL, LL = prsL R := ⟨_, rfl⟩
    obtain ⟨AA, hAA⟩ : ∃ AA, AA = prsA R := ⟨_, rfl⟩
    rw [← hR] at hRn h2
    rw [← hR, ← hLL] at hF
    rw [← hR] at hP
    rw [← hR] at hD
    simp only [← hR] at h3 h4 ⊢
    simp only [← hLL] at h4 ⊢
    rw [← hAA] at h3
    simp only [← hAA]
    simp only [← hLL, ← hAA] at hP
    simp only [h2] at hP
    generalize hII : fdD LL 260 = II at hF h4 ⊢
    generalize hIBB : fdB LL 260 = IB at hF
    have hP' : ∀ (W : World) (A : Option Addr) (c N : Nat), R.length = N → Bs W 0 W.heap.size A R → N ≤ c → c ≤ 9223372036854775807 → Calls Tryd.prog 66 #[.slice A N c] W fun e w' => ∃ A1 c1 n1 A2 c2, e = .returned (.tuple #[.slice A1 n1 c1, .slice A2 12 c2, .int .i64 0]) ∧ LL.length = n1 ∧ XO w' W.heap.size A1 c1 LL ∧ Ow w' W.heap.size A2 c2 AA ∧ Below W.heap.size W w' := fun W A c N q1 q2 q3 q4 => (hP W A c N q1 q2 q3 q4).mono fun e w' ⟨A1, c1, n1, A2, c2, n2, e1, e2, e3, e4⟩ => by
      obtain rfl : 12 = n2 := h3.symm.trans e3
      exact ⟨A1, c1, n1, A2, c2, e1, e2, e4⟩
    have hF' : ∀ (W : World) (A : Option Addr) (c N : Nat), LL.length = N → Xs W W.heap.size A LL → N ≤ c → c ≤ 9223372036854775807 → Calls Tryd.prog 36 #[.slice A N c, .int .i64 260] W fun e w' => ∃ A' c', e = .returned (.tuple #[.slice A' 16 c', .bool IB]) ∧ Ow w' W.heap.size A' c' II ∧ Below W.heap.size W w' := fun W A c N q1 q2 q3 q4 => (hF W A c N q1 q2 q3 q4).mono fun e w' ⟨A1, c1, n1, e1, e2, e3⟩ => by
      obtain rfl : 16 = n1 := h4.symm.trans e2
      exact ⟨A1, c1, e1, e3⟩
    have HI := Lib.hid h4
    clear hV h1 h2 h3 h4 h5 hE hR hLL hAA hII hIBB eI eA eL hP hF
    go_enter Tryd.func35, Tryd.ntmps35
    go_wp2_with (first
      | ((refine wpl_alloc (by rfl) 27 (by rfl) (.agg (zN).toArray) (zN) zeroNtp rfl ?_; intro w3 J3 s3 b3); (have T3 := T2.below b3 (by omega)); (have O3 := O2.below b3 (Nat.le_refl _)))
      | ((refine wpl_alloc (by rfl) 27 (by rfl) (.agg (zN).toArray) (zN) zeroNtp rfl ?_; intro w1 T1 s1 b1))
      | (go_at_call 65; ((with_reducible refine (hD _ ((h.below b1 (Nat.le_refl _)).wide (Nat.le_refl _) b1.size)).mono ?_); rintro e w2 ⟨A2, c2, N2, rfl, hN2, O2, b2⟩; (have T2 := T1.below b2 (by omega)); (have z2 := b2.size)))
      | ((refine wpl_store (by rfl) 27 _ _ (by rfl) w2.heap.size (by rfl) _ (by rfl) _ rfl 27 _ J3 (by rfl) _ sizeNtp (by rfl) (by simp [Value.oneCell']) ?_; intro w4 J4 s4 g4); (have T4 := T3.but g4 (by omega)); (have O4 := O3.grown g4 (fun g e => by have := O2.blt g e; simp; omega)); (have hc2 := O2.cap_le); (have hcc2 := O2.cap_max); rw [hN2] at hc2; (have B4 := ((b1.trans (b2.mono (by omega))).trans (b3.mono (by omega))).trans (g4.below (B := w.heap.size) (by omega) (by omega))))
      | ((refine wpl_store (by rfl) 27 _ _ (by rfl) w.heap.size (by rfl) _ (by rfl) _ rfl 27 _ T4 (by rfl) _ sizeNtp (by rfl) (by simp [Value.oneCell']) ?_; intro w5 T5 s5 g5))
      | (go_at_call 66; ((with_reducible refine (hP' _ _ _ _ hN2 (O4.bs.wide (Nat.zero_le _) (Nat.le_refl _)) hc2 hcc2).mono ?_); rintro e w6 ⟨A6, c6, n6, A7, c7, rfl, h6, X6, O7, b6⟩; (have k6 := X6.cap); rw [h6] at k6; (have T6 := T4.below b6 (by have := T4.lt; omega)); (have J6 := J4.below b6 (by have := J4.lt; omega)); (have B6 := B4.trans (b6.mono B4.size)); (have z6 := b6.size)))
      | ((refine wpl_store (by rfl) 27 _ _ (by rfl) w.heap.size (by rfl) _ (by rfl) _ rfl 27 _ T6 (by rfl) _ sizeNtp (by rfl) (by simp [Value.oneCell']) ?_; intro w8 T8 s8 g8))
      | (go_at_call 36; ((with_reducible refine (hF' _ _ _ _ h6 X6.xs k6.1 k6.2.1).mono ?_); rintro e w9 ⟨A9, c9, rfl, O9, b9⟩; (have T9 := T6.below b9 T6.lt); (have J9 := J6.below b9 J6.lt); (have B9 := B6.trans (b9.mono B6.size)); (have z9 := b9.size)))
      | ((refine wpl_store (by rfl) 27 _ _ (by rfl) w.heap.size (by rfl) _ (by rfl) _ rfl 27 _ T9 (by rfl) _ sizeNtp (by rfl) (by simp [Value.oneCell']) ?_; intro w10 T10 s10 g10))
      | (refine wpl_load (by rfl) 27 _ (by rfl) w2.heap.size (by rfl) 27 _ J9 _ Tryd.underlying27 rfl _ sizeNtp (by rfl) ?_))
    refine bodyPost_ret (res_c4 Tryd.results35 (by rfl) T10 Tryd.underlying27 rfl sizeNtp (by rfl) (by rfl) (by rfl) (by rfl) (by rfl)) rfl ?_
    have zw := B4.size
    have zw6 := B6.size
    have X9 := X6.below b9 (Nat.le_refl _)
    have O79 := O7.below b9 (Nat.le_refl _)
    have hlt : w.heap.size < w4.heap.size := T4.lt
    exact ⟨A6, n6, c6, A9, c9, A7, c7, rfl, h6, (X9.but g10 hlt).wide zw, (O9.grown g10 (fun g e => by have := O9.blt g e; simp; omega)).wide zw6, (O79.grown g10 (fun g e => by have := O79.blt g e; simp; omega)).wide zw, B9.trans (g10.below B9.size (Nat.le_refl _))⟩
set_option maxRecDepth 100000 in
set_option maxHeartbeats 8000000 in
theorem rtagged_any (A4 : Option Addr) (c4 : Nat) (AB : List Int) (A : Option Addr) (n c : Nat) (b : List Int) (k0 k1 : Int) (w : World) (hn : b.length = n) (h12 : 12 ≤ n) (h : Bs w 0 w.heap.size A b) (hnc : n ≤ c) (hc : c ≤ 9223372036854775807) (hm : n ≤ 1000000)
    (hA : AB.length = 12) (h4 : Bs w 0 w.heap.size A4 AB) (hn4 : 12 ≤ c4) (hc4 : c4 ≤ 9223372036854775807) (hk0 : U64 k0) (hk1 : U64 k1) :
    Calls Tryd.prog 38 #[.slice A n c, .slice A4 12 c4, keyV k0 k1] w fun e w' => e = .returned (.bool (prvB k0 k1 (spB b) AB)) ∧ Below w.heap.size w w' := by
  have hS := fun W hB => rsplit_12 A4 c4 0 w.heap.size AB W hA hB hn4 hc4
  have hT := fun W hB => rtag_any k0 k1 A (n - 12) c (spB b) W hk0 hk1 (spB_len hn) hB (by omega) (by omega) hc
  have hDb : Bs w 0 w.heap.size A (spB b) := h.take _
  unfold prvB
  generalize spB b = D at hT hDb ⊢
  generalize tagF k0 k1 D = T at hT ⊢
  generalize numB ((AB.drop 4).take 8) = Y at hS ⊢
  generalize numB (AB.take 4) = X at hS ⊢
  have q0 : (0 : Int) ≤ (n : Int) - 12 := by omega
  have q4 : (12 : Int) ≤ n := by omega
  have q1 : (n : Int) - 12 ≤ c := by omega
  have q2 : ((n : Int) - 12).toNat = n - 12 := by omega
  have q3 : IntKind.i64.wrap ((n : Int) - 12) = (n : Int) - 12 := IntWalk.i64_in _ (by omega)
  clear hn h hA
  cases hX : X == 0 with
  | true =>
    go_enter Tryd.func38, Tryd.ntmps38
    go_wp2_with (first
      | (refine wpl_box (by rfl) 29 _ (by rfl) _ (keyL k0 k1) (by rfl) rfl ?_; intro w1 P1 s1 b1)
      | (go_at_call 68; ((with_reducible refine (hS _ (h4.below b1 (Nat.le_refl _))).mono ?_); rintro e _ ⟨rfl, rfl⟩)))
    refine wp_region_det (fun y => Blk y w.heap.size 29 (keyL k0 k1) ∧ Below w.heap.size w y) 14 (by kernel_rfl) rfl (by exact ⟨P1.drew, b1.drew⟩) ?_
    simp only [List.replicate]
    (refine wpD_t 0 _ (by exact gE rfl) (by kernel_rfl) (by rfl) (YS.of_value (by intro _ h; (try dsimp only at h); go_simp; first | done | with_reducible rfl)) ?_; (try simp only [Act.put, zs0, zs1, zs2]))
    (refine wpD_t 1 _ (by exact gE rfl) (by kernel_rfl) (by rfl) (YS.of_value (by intro _ h; (try dsimp only at h); go_simp; first | done | with_reducible rfl)) ?_; (try simp only [Act.put, zs0, zs1, zs2]))
    (refine wpD_t 2 _ (by exact gE rfl) (by kernel_rfl) (by rfl) (YS.of_value (by intro _ h; (try dsimp only at h); go_simp; first | done | with_reducible rfl)) ?_; (try simp only [Act.put, zs0, zs1, zs2]))
    (refine wpD_t 3 _ (by exact gE rfl) (by kernel_rfl) (by rfl) (YS.of_value (by intro _ h; (try dsimp only at h); go_simp; first | done | with_reducible rfl)) ?_; (try simp only [Act.put, zs0, zs1, zs2]))
    refine wpD_t 4 (.agg (keyL k0 k1).toArray) (by exact gE rfl) (by kernel_rfl) (by rfl) (ys_load_mid 29 _ (by rfl) w.heap.size 0 (by rfl) (keyL k0 k1) _ (fun w' h => h.1.range) Tryd.underlying29 rfl sizeKey) ?_
    (try simp only [Act.put, zs0, zs1, zs2])
    (refine wpD_t 5 _ (by exact gE rfl) (by kernel_rfl) (by rfl) (YS.of_value (by intro _ h; (try dsimp only at h); go_simp; first | done | with_reducible rfl)) ?_; (try simp only [Act.put, zs0, zs1, zs2]))
    (refine wpD_t 6 _ (by exact gE rfl) (by kernel_rfl) (by rfl) (YS.of_value (by intro _ h; (try dsimp only at h); go_simp; first | done | with_reducible rfl)) ?_; (try simp only [Act.put, zs0, zs1, zs2]))
    (refine wpD_t 7 _ (by exact gE rfl) (by kernel_rfl) (by rfl) (YS.of_value (by intro _ h; (try dsimp only at h); go_simp; first | done | with_reducible rfl)) ?_; (try simp only [Act.put, zs0, zs1, zs2]))
    (refine wpD_t 8 _ (by exact gE rfl) (by kernel_rfl) (by rfl) (YS.of_value (by intro _ h; (try dsimp only at h); go_simp; first | done | with_reducible rfl)) ?_; (try simp only [Act.put, zs0, zs1, zs2]))
    (refine wpD_t 9 _ (by exact gE rfl) (by kernel_rfl) (by rfl) (YS.of_value (by intro _ h; (try dsimp only at h); go_simp; first | done | with_reducible rfl)) ?_; (try simp only [Act.put, zs0, zs1, zs2]))
    (refine wpD_t 10 _ (by exact gE rfl) (by kernel_rfl) (by rfl) (by intro w' hSw; (try dsimp only at hSw); go_simp; (go_at_call 69; ((with_reducible refine (hT _ ((hDb.below hSw.2 (Nat.le_refl _)).wide (Nat.le_refl _) hSw.2.size)).mono ?_); rintro e w3 ⟨rfl, b3⟩; exact ⟨rfl, hSw.1.below b3 hSw.1.lt, hSw.2.trans (b3.mono hSw.2.size)⟩))) ?_; (try simp only [Act.put, zs0, zs1, zs2]))
    (refine wpD_t 11 _ (by exact gE rfl) (by kernel_rfl) (by rfl) (YS.of_value (by intro _ h; (try dsimp only at h); go_simp; first | done | with_reducible rfl)) ?_; (try simp only [Act.put, zs0, zs1, zs2]))
    (refine wpD_t 12 _ (by exact gE rfl) (by kernel_rfl) (by rfl) (YS.of_value (by intro _ h; (try dsimp only at h); go_simp; first | done | with_reducible rfl)) ?_; (try simp only [Act.put, zs0, zs1, zs2]))
    (refine wpD_t 13 _ (by exact gE rfl) (by kernel_rfl) (by rfl) (YS.of_value (by intro _ h; (try dsimp only at h); go_simp; first | done | with_reducible rfl)) ?_; (try simp only [Act.put, zs0, zs1, zs2]))
    refine wpD_done (by kernel_rfl) ?_ _
    intro w5 hS5
    go_wp2
    go_ret
    refine ⟨?_, hS5.2⟩
    simp [BEq.comm (a := Y)]
  | false =>
    clear hT
    go_enter Tryd.func38, Tryd.ntmps38
    go_wp2_with (first
      | (refine wpl_box (by rfl) 29 _ (by rfl) _ (keyL k0 k1) (by rfl) rfl ?_; intro w1 P1 s1 b1)
      | (go_at_call 68; ((with_reducible refine (hS _ (h4.below b1 (Nat.le_refl _))).mono ?_); rintro e _ ⟨rfl, rfl⟩)))
    refine wp_region_det (fun y => Below w.heap.size w y) 14 (by kernel_rfl) rfl (by exact b1.drew) ?_
    simp only [List.replicate]
    (refine wpD_t 0 _ (by exact gE rfl) (by kernel_rfl) (by rfl) (YS.of_value (by intro _ h; (try dsimp only at h); go_simp; first | done | with_reducible rfl)) ?_; (try simp only [Act.put, zs0, zs1, zs2]))
    (refine wpD_t 1 _ (by exact gE rfl) (by kernel_rfl) (by rfl) (YS.of_value (by intro _ h; (try dsimp only at h); go_simp; first | done | with_reducible rfl)) ?_; (try simp only [Act.put, zs0, zs1, zs2]))
    (refine wpD_t 2 _ (by exact gE rfl) (by kernel_rfl) (by rfl) (YS.of_value (by intro _ h; (try dsimp only at h); go_simp; first | done | with_reducible rfl)) ?_; (try simp only [Act.put, zs0, zs1, zs2]))
    (refine wpD_skip (i := 3) (by exact gE rfl) (by kernel_rfl) (by kernel_rfl) (by kernel_rfl) (by rfl) ?_; (try simp only [Act.put, zs0, zs1, zs2]))
    (refine wpD_skip (i := 4) (by exact gE rfl) (by kernel_rfl) (by kernel_rfl) (by kernel_rfl) (by rfl) ?_; (try simp only [Act.put, zs0, zs1, zs2]))
    (refine wpD_skip (i := 5) (by exact gE rfl) (by kernel_rfl) (by kernel_rfl) (by kernel_rfl) (by rfl) ?_; (try simp only [Act.put, zs0, zs1, zs2]))
    (refine wpD_skip (i := 6) (by exact gE rfl) (by kernel_rfl) (by kernel_rfl) (by kernel_rfl) (by rfl) ?_; (try simp only [Act.put, zs0, zs1, zs2]))
    (refine wpD_skip (i := 7) (by exact gE rfl) (by kernel_rfl) (by kernel_rfl) (by kernel_rfl) (by rfl) ?_; (try simp only [Act.put, zs0, zs1, zs2]))
    (refine wpD_skip (i := 8) (by exact gE rfl) (by kernel_rfl) (by kernel_rfl) (by kernel_rfl) (by rfl) ?_; (try simp only [Act.put, zs0, zs1, zs2]))
    (refine wpD_skip (i := 9) (by exact gE rfl) (by kernel_rfl) (by kernel_rfl) (by kernel_rfl) (by rfl) ?_; (try simp only [Act.put, zs0, zs1, zs2]))
    (refine wpD_skip (i := 10) (by exact gE rfl) (by kernel_rfl) (by kernel_rfl) (by kernel_rfl) (by rfl) ?_; (try simp only [Act.put, zs0, zs1, zs2]))
    (refine wpD_skip (i := 11) (by exact gE rfl) (by kernel_rfl) (by kernel_rfl) (by kernel_rfl) (by rfl) ?_; (try simp only [Act.put, zs0, zs1, zs2]))
    (refine wpD_t 12 _ (by exact gE rfl) (by kernel_rfl) (by rfl) (YS.of_value (by intro _ h; (try dsimp only at h); go_simp; first | done | with_reducible rfl)) ?_; (try simp only [Act.put, zs0, zs1, zs2]))
    (refine wpD_t 13 _ (by exact gE rfl) (by kernel_rfl) (by rfl) (YS.of_value (by intro _ h; (try dsimp only at h); go_simp; first | done | with_reducible rfl)) ?_; (try simp only [Act.put, zs0, zs1, zs2]))
    refine wpD_done (by kernel_rfl) ?_ _
    intro w5 hS5
    go_wp2
    go_ret
    exact ⟨by simp, hS5⟩
end Go.Proofs.YtachhbbofemfdaaDoor
