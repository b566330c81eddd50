/- ExtAppends (P20.1): for every input the law returns true, and its arguments read afterwards as before. No condition. -/
import Derived.Test.YtloopnfnbhdlmaaEx7
import Derived.Test.YtloopnfnbhdlmaaExt2
namespace Go.Proofs.Ytloopnfnbhdlmaa
open Go.ChangeShapes Go.WideShapes Go.ChangeAt Go.RowKit Go.Joins
set_option linter.unusedSimpArgs false
set_option linter.unusedVariables false
set_option maxRecDepth 100000
set_option maxHeartbeats 8000000 in
theorem appends_awk (A : Option Addr) (n c : Nat) (B : Option Addr) (m d : Nat) (L : Flds) (w : World) (hm : L.length = m) (hX : Xs w w.heap.size B L) (hmd : m ≤ d) (hd : d ≤ 9223372036854775807) (hf : fewB L = false ∨ (fewB L = true ∧ 400 < n)) :
    Calls Try.prog 3 #[.slice A n c, .slice B m d] w fun e w' => e = .returned (.bool true) ∧ Below w.heap.size w w' := by
  have hF := few_any B m d L w hm hX hmd hd
  rcases hf with hf | ⟨hf, hn4⟩
  · rw [hf] at hF
    clear hf hX hm
    go_enter Try.func3, Try.ntmps3
    go_wp2_with (first | (go_at_call 8; ((with_reducible refine hF.mono ?_); rintro e w1 ⟨rfl, b1⟩)) | (go_at_call 9; ((with_reducible refine (awake_any _).mono ?_); rintro e w9 ⟨rfl, b9⟩)))
    go_ret
    exact ⟨rfl, b1.trans (b9.mono b1.size)⟩
  · rw [hf] at hF
    have h4 : decide (400 < (n : Int)) = true := decide_eq_true (by omega)
    clear hf hX hm hn4
    go_enter Try.func3, Try.ntmps3
    go_wp2_with (first | (go_at_call 8; ((with_reducible refine hF.mono ?_); rintro e w1 ⟨rfl, b1⟩)) | (go_at_call 9; ((with_reducible refine (awake_any _).mono ?_); rintro e w9 ⟨rfl, b9⟩)))
    go_ret
    exact ⟨rfl, b1.trans (b9.mono b1.size)⟩
set_option maxHeartbeats 8000000 in
theorem appends_err (A : Option Addr) (n c : Nat) (B : Option Addr) (m d : Nat) (L : Flds) (w : World) (hm : L.length = m) (hX : Xs w w.heap.size B L) (hmd : m ≤ d) (hd : d ≤ 9223372036854775807) (hf : fewB L = true) (hn4 : n ≤ 400) (he : apxE L ≠ 0) :
    Calls Try.prog 3 #[.slice A n c, .slice B m d] w fun e w' => e = .returned (.bool true) ∧ Below w.heap.size w w' := by
  have hF := few_any B m d L w hm hX hmd hd
  obtain ⟨hm24, hL4⟩ := fewB_yes hf
  rw [hf] at hF
  have h4 : decide (400 < (n : Int)) = false := decide_eq_false (by omega)
  have HE1 := fun W (hb : Below w.heap.size w W) => xappend_err A n c B m d L W hm ((hX.below hb (Nat.le_refl _)).wide hb.size) hmd hd he
  have HE2 := fun W (hb : Below w.heap.size w W) => rxappend_err A n c B m d L W hm ((hX.below hb (Nat.le_refl _)).wide hb.size) hmd hd he
  have h : True := trivial
  have hE1 : True := trivial
  have hL4 := Lib.hid hL4
  clear he hf
  generalize apxE L = E at HE1 HE2
  go_enter Try.func3, Try.ntmps3
  go_wp2_with (first | (go_at_call 8; ((with_reducible refine hF.mono ?_); rintro e w1 ⟨rfl, B1⟩)))
  go_loopw [22] (fun i wr => ∃ k : Nat, k ≤ m ∧ i = .int .i64 k ∧ Below w.heap.size w wr) (fun i _ => m - (intOf i).toNat)
  case atStart => exact ⟨0, by omega, rfl, B1⟩
  case round =>
    obtain ⟨k, hk, rfl, hB⟩ := hrel
    by_cases hlt : k < m
    · skip
      clear HE1 HE2
      obtain ⟨b, o, rfl, hbw, hx⟩ := (hX.below hB (Nat.le_refl _)) (by omega)
      obtain ⟨Ak, ck, hrg, hBk, hlc, hcm, hno⟩ := (hx k (by omega)).open'
      have hi0 : (0 : Int) ≤ k := by omega
      have hi1 : (k : Int) < m := by omega
      obtain ⟨K, hK⟩ : ∃ K, K = kdL L k := ⟨_, rfl⟩
      obtain ⟨D, hD⟩ : ∃ D, D = (dtL L k).length := ⟨_, rfl⟩
      rw [← hK, ← hD] at hrg
      rw [← hD] at hlc hno
      have HK := Lib.hid hK
      have HD := Lib.hid hD
      clear hx hK hD
      clear hX h hE1
      go_wp2_with (first
        | (refine wpl_loadr (by rfl) 27 _ (by rfl) b (o + k * 2) (by rfl) _ hrg _ Try.underlying27 rfl _ sizeExt (by rfl) ?_)
        | (refine wpl_alloc (by rfl) 27 (by rfl) (.agg (exC 0 none 0 0).toArray) (exC 0 none 0 0) zeroExt rfl ?_; intro wa Ja sa ba)
        | (refine wpl_store (by rfl) 27 _ _ (by rfl) wr.heap.size (by rfl) _ (by rfl) (exC K Ak D ck) rfl 27 _ Ja (by rfl) _ sizeExt (by rfl) (by simp [Value.oneCell']) ?_; intro wb Jb sb gb)
        )
      have Bb := (hB.trans (ba.mono hB.size)).trans (gb.below (by have := hB.size; omega) hB.size)
      have q0 : Kc wb [] wr.heap.size 0 (.int .i64 K) := ⟨Jb.cell rfl, by simp⟩
      have q1 : Kc wb [] wr.heap.size 1 (.slice Ak D ck) := ⟨Jb.cell rfl, by simp⟩
      have hD9 : D ≤ 9223372036854775807 := by omega
      have zb := hB.size
      clear Ja Jb ba gb hBk hrg hB
      refine wp_region_det (fun w' => w'.cell? ⟨wr.heap.size, 0, none⟩ = some (.int .i64 K) ∧ w'.cell? ⟨wr.heap.size, 1, none⟩ = some (.slice Ak D ck) ∧ Kp wb [] w') 5 (by kernel_rfl) rfl (by (((try go_split_ands); (with_reducible refine kp2 ?_ q0 q1); (repeat (with_reducible first | (refine Kp.set ?_ ?_; rotate_left; (with_reducible first | exact Or.inl (Nat.le_refl _) | exact Or.inr (List.mem_cons_self ..) | (refine Or.inl ?_; assumption) | (refine Or.inl (Kp.size ?_); assumption))) | refine Kp.drew ?_ | refine Kp.alloc _ ?_ | assumption | exact Kp.refl _ _ | exact Kp.belowS hb (by assumption) | exact Kp.but hg (by assumption) (Or.inr (List.mem_cons_self ..))))))) ?_
      simp only [List.replicate]
      (refine wpD_take (i := 0) (v := _) (by simp only [List.getElem?_toArray, List.getElem?_cons_succ, List.getElem?_cons_zero]; rfl) (by kernel_rfl) (by kernel_rfl) (by kernel_rfl) (by rfl) (YS.of_value (by intro w' hSw; (try dsimp only at hSw); go_simp; first | done | with_reducible rfl)) ?_; (try simp only [Act.put, List.setIfInBounds_toArray, List.set_cons_zero, List.set_cons_succ]))
      (refine wpD_take (i := 1) (v := _) (by simp only [List.getElem?_toArray, List.getElem?_cons_succ, List.getElem?_cons_zero]; rfl) (by kernel_rfl) (by kernel_rfl) (by kernel_rfl) (by rfl) (by intro w' hSw; (try dsimp only at hSw); go_simp; (go_at_call 10; ((with_reducible refine (chk_any _ _ _ _ _ hD9).mono ?_); rintro e w1 ⟨rfl, hb⟩; (refine ⟨rfl, ?_⟩); (((try go_split_ands); (with_reducible refine kp2 ?_ q0 q1); (repeat (with_reducible first | (refine Kp.set ?_ ?_; rotate_left; (with_reducible first | exact Or.inl (Nat.le_refl _) | exact Or.inr (List.mem_cons_self ..) | (refine Or.inl ?_; assumption) | (refine Or.inl (Kp.size ?_); assumption))) | refine Kp.drew ?_ | refine Kp.alloc _ ?_ | assumption | exact Kp.refl _ _ | exact Kp.belowS hb (by assumption) | exact Kp.but hg (by assumption) (Or.inr (List.mem_cons_self ..))))))))) ?_; (try simp only [Act.put, List.setIfInBounds_toArray, List.set_cons_zero, List.set_cons_succ]))
      (refine wpD_take (i := 2) (v := _) (by simp only [List.getElem?_toArray, List.getElem?_cons_succ, List.getElem?_cons_zero]; rfl) (by kernel_rfl) (by kernel_rfl) (by kernel_rfl) (by rfl) (YS.of_value (by intro w' hSw; (try dsimp only at hSw); go_simp; first | done | with_reducible rfl)) ?_; (try simp only [Act.put, List.setIfInBounds_toArray, List.set_cons_zero, List.set_cons_succ]))
      (refine wpD_take (i := 3) (v := _) (by simp only [List.getElem?_toArray, List.getElem?_cons_succ, List.getElem?_cons_zero]; rfl) (by kernel_rfl) (by kernel_rfl) (by kernel_rfl) (by rfl) (by intro w' hSw; (try dsimp only at hSw); go_simp; (go_at_call 11; ((with_reducible refine (rchk_any _ _ _ _ _ hD9).mono ?_); rintro e w1 ⟨rfl, hb⟩; (refine ⟨rfl, ?_⟩); (((try go_split_ands); (with_reducible refine kp2 ?_ q0 q1); (repeat (with_reducible first | (refine Kp.set ?_ ?_; rotate_left; (with_reducible first | exact Or.inl (Nat.le_refl _) | exact Or.inr (List.mem_cons_self ..) | (refine Or.inl ?_; assumption) | (refine Or.inl (Kp.size ?_); assumption))) | refine Kp.drew ?_ | refine Kp.alloc _ ?_ | assumption | exact Kp.refl _ _ | exact Kp.belowS hb (by assumption) | exact Kp.but hg (by assumption) (Or.inr (List.mem_cons_self ..))))))))) ?_; (try simp only [Act.put, List.setIfInBounds_toArray, List.set_cons_zero, List.set_cons_succ]))
      (refine wpD_take (i := 4) (v := _) (by simp only [List.getElem?_toArray, List.getElem?_cons_succ, List.getElem?_cons_zero]; rfl) (by kernel_rfl) (by kernel_rfl) (by kernel_rfl) (by rfl) (YS.of_value (by intro w' hSw; (try dsimp only at hSw); go_simp; first | done | with_reducible rfl)) ?_; (try simp only [Act.put, List.setIfInBounds_toArray, List.set_cons_zero, List.set_cons_succ]))
      refine wpD_done (by kernel_rfl) ?_ _
      rintro w5 ⟨_, _, hK5⟩
      have B5 := hK5.toBelow Bb Bb.size (by simp)
      clear hK5 q0 q1 Bb
      go_wp2_with fail
      exact ⟨⟨k + 1, by omega, by go_num, B5⟩, by simp [intOf]; omega⟩
    · obtain rfl : m = k := by omega
      go_wp2_with (first
        | (go_at_call 12; ((with_reducible refine (HE1 _ hB).mono ?_); rintro e w2 ⟨rfl, b2⟩; (have B2 := hB.trans (b2.mono hB.size))))
        | (go_at_call 13; ((with_reducible refine (HE2 _ B2).mono ?_); rintro e w3 ⟨rfl, b3⟩; (have B3 := B2.trans (b3.mono B2.size)); (have hQ := bequal_any none none 0 0 0 0 0 0 0 0 [] [] w3 rfl rfl Bs.nil Bs.nil); rw [eqB_self] at hQ))
        | (go_at_call 14; ((with_reducible refine hQ.mono ?_); rintro e w' ⟨rfl, rfl⟩))
        | (go_at_call 9; ((with_reducible refine (awake_any _).mono ?_); rintro e w9 ⟨rfl, b9⟩)))
      go_ret
      exact ⟨rfl, B3.trans (b9.mono B3.size)⟩
set_option maxHeartbeats 8000000 in
theorem appends_ok (A : Option Addr) (n c : Nat) (l : List Int) (B : Option Addr) (m d : Nat) (L : Flds) (w : World) (hn : l.length = n) (h : Bs w 0 w.heap.size A l) (hA : A = none → n = 0 ∧ c = 0) (hm : L.length = m) (hX : Xs w w.heap.size B L) (hmd : m ≤ d) (hd : d ≤ 9223372036854775807) (hf : fewB L = true) (hn4 : n ≤ 400) (he : apxE L = 0) :
    Calls Try.prog 3 #[.slice A n c, .slice B m d] w fun e w' => e = .returned (.bool true) ∧ Below w.heap.size w w' := by
  have hF := few_any B m d L w hm hX hmd hd
  obtain ⟨hm24, hL4⟩ := fewB_yes hf
  rw [hf] at hF
  have h4 : decide (400 < (n : Int)) = false := decide_eq_false (by omega)
  have HE1 := fun W (hb : Below w.heap.size w W) => xappend_ok A n c 0 w.heap.size l B m d L W hn (h.below hb (Nat.le_refl _)) hb.size hA (by omega) hm ((hX.below hb (Nat.le_refl _)).wide hb.size) hmd hd he
  have HE2 := fun W (hb : Below w.heap.size w W) => rxappend_ok A n c 0 w.heap.size l B m d L W hn (h.below hb (Nat.le_refl _)) hb.size (by omega) hm ((hX.below hb (Nat.le_refl _)).wide hb.size) hmd hd he
  have hE1 : True := trivial
  have hL4 := Lib.hid hL4
  clear he hf hA hn
  generalize l ++ fldsB L = R at HE1 HE2
  go_enter Try.func3, Try.ntmps3
  go_wp2_with (first | (go_at_call 8; ((with_reducible refine hF.mono ?_); rintro e w1 ⟨rfl, B1⟩)))
  go_loopw [22] (fun i wr => ∃ k : Nat, k ≤ m ∧ i = .int .i64 k ∧ Below w.heap.size w wr) (fun i _ => m - (intOf i).toNat)
  case atStart => exact ⟨0, by omega, rfl, B1⟩
  case round =>
    obtain ⟨k, hk, rfl, hB⟩ := hrel
    by_cases hlt : k < m
    · skip
      clear HE1 HE2
      obtain ⟨b, o, rfl, hbw, hx⟩ := (hX.below hB (Nat.le_refl _)) (by omega)
      obtain ⟨Ak, ck, hrg, hBk, hlc, hcm, hno⟩ := (hx k (by omega)).open'
      have hi0 : (0 : Int) ≤ k := by omega
      have hi1 : (k : Int) < m := by omega
      obtain ⟨K, hK⟩ : ∃ K, K = kdL L k := ⟨_, rfl⟩
      obtain ⟨D, hD⟩ : ∃ D, D = (dtL L k).length := ⟨_, rfl⟩
      rw [← hK, ← hD] at hrg
      rw [← hD] at hlc hno
      have HK := Lib.hid hK
      have HD := Lib.hid hD
      clear hx hK hD
      clear hX h hE1
      go_wp2_with (first
        | (refine wpl_loadr (by rfl) 27 _ (by rfl) b (o + k * 2) (by rfl) _ hrg _ Try.underlying27 rfl _ sizeExt (by rfl) ?_)
        | (refine wpl_alloc (by rfl) 27 (by rfl) (.agg (exC 0 none 0 0).toArray) (exC 0 none 0 0) zeroExt rfl ?_; intro wa Ja sa ba)
        | (refine wpl_store (by rfl) 27 _ _ (by rfl) wr.heap.size (by rfl) _ (by rfl) (exC K Ak D ck) rfl 27 _ Ja (by rfl) _ sizeExt (by rfl) (by simp [Value.oneCell']) ?_; intro wb Jb sb gb)
        )
      have Bb := (hB.trans (ba.mono hB.size)).trans (gb.below (by have := hB.size; omega) hB.size)
      have q0 : Kc wb [] wr.heap.size 0 (.int .i64 K) := ⟨Jb.cell rfl, by simp⟩
      have q1 : Kc wb [] wr.heap.size 1 (.slice Ak D ck) := ⟨Jb.cell rfl, by simp⟩
      have hD9 : D ≤ 9223372036854775807 := by omega
      have zb := hB.size
      clear Ja Jb ba gb hBk hrg hB
      refine wp_region_det (fun w' => w'.cell? ⟨wr.heap.size, 0, none⟩ = some (.int .i64 K) ∧ w'.cell? ⟨wr.heap.size, 1, none⟩ = some (.slice Ak D ck) ∧ Kp wb [] w') 5 (by kernel_rfl) rfl (by (((try go_split_ands); (with_reducible refine kp2 ?_ q0 q1); (repeat (with_reducible first | (refine Kp.set ?_ ?_; rotate_left; (with_reducible first | exact Or.inl (Nat.le_refl _) | exact Or.inr (List.mem_cons_self ..) | (refine Or.inl ?_; assumption) | (refine Or.inl (Kp.size ?_); assumption))) | refine Kp.drew ?_ | refine Kp.alloc _ ?_ | assumption | exact Kp.refl _ _ | exact Kp.belowS hb (by assumption) | exact Kp.but hg (by assumption) (Or.inr (List.mem_cons_self ..))))))) ?_
      simp only [List.replicate]
      (refine wpD_take (i := 0) (v := _) (by simp only [List.getElem?_toArray, List.getElem?_cons_succ, List.getElem?_cons_zero]; rfl) (by kernel_rfl) (by kernel_rfl) (by kernel_rfl) (by rfl) (YS.of_value (by intro w' hSw; (try dsimp only at hSw); go_simp; first | done | with_reducible rfl)) ?_; (try simp only [Act.put, List.setIfInBounds_toArray, List.set_cons_zero, List.set_cons_succ]))
      (refine wpD_take (i := 1) (v := _) (by simp only [List.getElem?_toArray, List.getElem?_cons_succ, List.getElem?_cons_zero]; rfl) (by kernel_rfl) (by kernel_rfl) (by kernel_rfl) (by rfl) (by intro w' hSw; (try dsimp only at hSw); go_simp; (go_at_call 10; ((with_reducible refine (chk_any _ _ _ _ _ hD9).mono ?_); rintro e w1 ⟨rfl, hb⟩; (refine ⟨rfl, ?_⟩); (((try go_split_ands); (with_reducible refine kp2 ?_ q0 q1); (repeat (with_reducible first | (refine Kp.set ?_ ?_; rotate_left; (with_reducible first | exact Or.inl (Nat.le_refl _) | exact Or.inr (List.mem_cons_self ..) | (refine Or.inl ?_; assumption) | (refine Or.inl (Kp.size ?_); assumption))) | refine Kp.drew ?_ | refine Kp.alloc _ ?_ | assumption | exact Kp.refl _ _ | exact Kp.belowS hb (by assumption) | exact Kp.but hg (by assumption) (Or.inr (List.mem_cons_self ..))))))))) ?_; (try simp only [Act.put, List.setIfInBounds_toArray, List.set_cons_zero, List.set_cons_succ]))
      (refine wpD_take (i := 2) (v := _) (by simp only [List.getElem?_toArray, List.getElem?_cons_succ, List.getElem?_cons_zero]; rfl) (by kernel_rfl) (by kernel_rfl) (by kernel_rfl) (by rfl) (YS.of_value (by intro w' hSw; (try dsimp only at hSw); go_simp; first | done | with_reducible rfl)) ?_; (try simp only [Act.put, List.setIfInBounds_toArray, List.set_cons_zero, List.set_cons_succ]))
      (refine wpD_take (i := 3) (v := _) (by simp only [List.getElem?_toArray, List.getElem?_cons_succ, List.getElem?_cons_zero]; rfl) (by kernel_rfl) (by kernel_rfl) (by kernel_rfl) (by rfl) (by intro w' hSw; (try dsimp only at hSw); go_simp; (go_at_call 11; ((with_reducible refine (rchk_any _ _ _ _ _ hD9).mono ?_); rintro e w1 ⟨rfl, hb⟩; (refine ⟨rfl, ?_⟩); (((try go_split_ands); (with_reducible refine kp2 ?_ q0 q1); (repeat (with_reducible first | (refine Kp.set ?_ ?_; rotate_left; (with_reducible first | exact Or.inl (Nat.le_refl _) | exact Or.inr (List.mem_cons_self ..) | (refine Or.inl ?_; assumption) | (refine Or.inl (Kp.size ?_); assumption))) | refine Kp.drew ?_ | refine Kp.alloc _ ?_ | assumption | exact Kp.refl _ _ | exact Kp.belowS hb (by assumption) | exact Kp.but hg (by assumption) (Or.inr (List.mem_cons_self ..))))))))) ?_; (try simp only [Act.put, List.setIfInBounds_toArray, List.set_cons_zero, List.set_cons_succ]))
      (refine wpD_take (i := 4) (v := _) (by simp only [List.getElem?_toArray, List.getElem?_cons_succ, List.getElem?_cons_zero]; rfl) (by kernel_rfl) (by kernel_rfl) (by kernel_rfl) (by rfl) (YS.of_value (by intro w' hSw; (try dsimp only at hSw); go_simp; first | done | with_reducible rfl)) ?_; (try simp only [Act.put, List.setIfInBounds_toArray, List.set_cons_zero, List.set_cons_succ]))
      refine wpD_done (by kernel_rfl) ?_ _
      rintro w5 ⟨_, _, hK5⟩
      have B5 := hK5.toBelow Bb Bb.size (by simp)
      clear hK5 q0 q1 Bb
      go_wp2_with fail
      exact ⟨⟨k + 1, by omega, by go_num, B5⟩, by simp [intOf]; omega⟩
    · obtain rfl : m = k := by omega
      go_wp2_with (first
        | (go_at_call 12; ((with_reducible refine (HE1 _ hB).mono ?_); rintro e w2 ⟨A2, c2, N2, rfl, hN2, O2, b2⟩; (have B2 := hB.trans (b2.mono hB.size)); (have HN2 := Lib.hid hN2); clear hN2))
        | (go_at_call 13; ((with_reducible refine (HE2 _ B2).mono ?_); rintro e w3 ⟨A3, c3, N3, rfl, hN3, O3, b3⟩; (have B3 := B2.trans (b3.mono B2.size)); (have hQ := bequal_any A2 A3 N2 N3 c2 c3 _ _ _ _ R R w3 HN2.out hN3 (O2.below b3 (Nat.le_refl _)).bs O3.bs); rw [eqB_self] at hQ; clear hN3))
        | (go_at_call 14; ((with_reducible refine hQ.mono ?_); rintro e w' ⟨rfl, rfl⟩))
        | (go_at_call 9; ((with_reducible refine (awake_any _).mono ?_); rintro e w9 ⟨rfl, b9⟩)))
      go_ret
      exact ⟨rfl, B3.trans (b9.mono B3.size)⟩
theorem appendsLaw (A : Option Addr) (n c : Nat) (l : List Int) (B : Option Addr) (m d : Nat) (L : Flds) (w : World) (hn : l.length = n) (h : Bs w 0 w.heap.size A l) (hA : A = none → n = 0 ∧ c = 0) (hm : L.length = m) (hX : Xs w w.heap.size B L) (hmd : m ≤ d) (hd : d ≤ 9223372036854775807) :
    Calls Try.prog 3 #[.slice A n c, .slice B m d] w fun e w' => e = .returned (.bool true) ∧ Below w.heap.size w w' := by
  rcases hf : fewB L with _ | _
  · exact appends_awk A n c B m d L w hm hX hmd hd (.inl hf)
  · by_cases hn4 : 400 < n
    · exact appends_awk A n c B m d L w hm hX hmd hd (.inr ⟨hf, hn4⟩)
    · by_cases he : apxE L = 0
      · exact appends_ok A n c l B m d L w hn h hA hm hX hmd hd hf (by omega) he
      · exact appends_err A n c B m d L w hm hX hmd hd hf (by omega) he
namespace lawAppends
set_option maxRecDepth 100000 in
theorem lifted (os : Os) (started : os.Started) (H : Type) (enc : TypeId × Value → H) :
    ReturnsInHanded {} Try.checked os 3 .any (Rows.extAppendsSpec.pre6 enc Try.prog Try.f3 Rows.extAppendsRow.domain false) (Rows.extAppendsSpec.post enc Try.prog Try.f3 false true false false) := by
  refine returnsInHanded_of_change_sized (C := Try.checked) own started (by kernel_rfl) Try.func3
    (ChangeSpec.witness6 (enc := enc) (C := Try.checked) false ⟨#[], #[.slice none 0 0, .slice none 0 0], []⟩ 8 (by kernel_rfl) (by kernel_rfl) (by kernel_rfl) (by kernel_rfl)) ?_
  intro W base args ds gs before hval0 hW hcnd hsz0 _
  have hval : ∀ (j : Nat) t v, Try.f3.params[j]? = some t → args[j]? = some v → Value.okWide Try.prog W .any base t v := hval0
  have hW' := hW
  obtain ⟨p, q, hA0, hV, rfl, hfz, hnd⟩ := hW
  have hA : DataW.TrodAll enc Try.prog W 0 (fun _ => true) true Try.f3.params.toList args.toList ds p := hA0
  have hsz : (DataW.weightsEach Try.prog (Try.f3.params.toList ++ Rows.extAppendsSpec.plain.varTypes Try.prog) (ds ++ gs)).all (· ≤ reachBytes) = true := hsz0
  rw [Try.params3] at hA hval hsz
  obtain ⟨rfl, rfl⟩ := trodVars_none hV
  obtain ⟨v0, v1, d0, d1, p0, p1, rfl, rfl, rfl, h0, h1⟩ := trodAll_two hA
  obtain ⟨A, n, c, l, rfl, hn_l, hB_l, hc_l, hnil_l, hs_l⟩ := open_bs (hval 0 22 v0 rfl rfl) h0
  have hr_l := hs_l hsz (j := 0) rfl rfl
  subst hn_l
  obtain ⟨B, m, d, L, rfl, hm, hX, hmd, hd, _, _⟩ := open_exts (hval 1 23 v1 rfl rfl) h1
  refine (appendsLaw A _ c l B m d L W rfl hB_l hnil_l hm hX hmd hd).mono fun e W' ⟨he, hb⟩ => ?_
  subst he
  revert hb
  simp only [List.append_nil] at hW'
  intro hb
  exact ⟨_, rfl, law_post (tb := 4) laidOut Try.underlying4 rfl (by rw [Try.params3]; intro t ht; revert ht; revert t; exact of_decide_eq_true (by kernel_rfl)) rfl rfl rfl rfl hW' hb⟩
theorem over : Rows.extAppendsRow.holds Try.pinned (OpenSpec.ofChange Rows.extAppendsSpec) :=
  OpenClaim.holds_of_wide 3 Try.f3 rfl rfl rfl rfl rfl rfl rfl ⟨rfl, rfl, rfl, rfl, rfl⟩ rfl rfl rfl rfl rfl (by kernel_rfl) Try.func3 (by kernel_rfl)
    (of_decide_eq_true (by kernel_rfl)) (by unfold Func.isWrapper; first | (rw [if_pos (by decide +kernel)]; kernel_rfl) | (rw [if_neg (by decide +kernel)]; exact ⟨rfl, rfl⟩))
    (fun os started H enc _ => lifted os started H enc)
theorem proved : Rows.ExtAppendsSaid :=
  over
#print axioms proved
end lawAppends
end Go.Proofs.Ytloopnfnbhdlmaa
