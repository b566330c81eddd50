/- AssocExchange (P31.2, P31.3, P31.6): for every input the law returns true, and its arguments read afterwards as before. No condition. -/
import Derived.Test.YtickoncgnjgciaaAsK
import Derived.Test.YtickoncgnjgciaaFields
import Derived.Test.YtickoncgnjgciaaHeld
import Derived.Test.YtickoncgnjgciaaKp
namespace Go.Proofs.Ytickoncgnjgciaa
open Go.ChangeShapes Go.WideShapes Go.ChangeAt Go.RowKit Go.Joins
set_option linter.unusedSimpArgs false
set_option linter.unusedVariables false
theorem sizeQuad : (Try.prog.info? 38).map (·.size) = some 4 := by kernel_rfl
abbrev qdL (a b d e : Int) : List Value := [.int .i64 a, .int .i64 b, .int .i64 d, .int .i64 e]
theorem ex_nchk {st : Int} (h1 : 1 ≤ st) (h2 : st ≤ 15) : nchk 0 4 4 st 0 0 = 0 := by unfold nchk; rw [if_pos (by omega)]
theorem ks_no {st id : Int} (h : 1 ≤ st) : ksB st id = false := by unfold ksB; rw [decide_eq_false (by omega)]; rfl
theorem sy_yes {st : Int} (h1 : 1 ≤ st) (h2 : st ≤ 15) : syncB 0 st = true := decide_eq_true ⟨by omega, h1, h2⟩
theorem ins_back {t now : Int} (ht : rdB t = true) (hn : rdB now = true) : insB (ofN (3900000000000000000 + t)) now = true ∧ insV (ofN (3900000000000000000 + t)) now = t := by
  have h1 := rdB_iff.1 ht
  have h2 := rdB_iff.1 hn
  have e : insT (ofN (3900000000000000000 + t)) now = t := by
    unfold insT
    rw [back_V (by omega) (by omega)]
    omega
  have hB : insB (ofN (3900000000000000000 + t)) now = true := by unfold insB; rw [e]; exact ht
  exact ⟨hB, by unfold insV; rw [hB, e]; rfl⟩
set_option maxRecDepth 100000 in
set_option maxHeartbeats 4000000 in
theorem exch_ok (n a b d e st : Int) (w : World) (h0 : n ≠ 0) (h1 : rdB a = true) (h2 : rdB b = true) (h3 : rdB d = true) (h4 : rdB e = true) (h5 : ¬ e < a) (h6 : ¬ d < b) (h7 : 1 ≤ st) (h8 : st ≤ 15) :
    Calls Try.prog 5 #[.int .u64 n, .agg (qdL a b d e).toArray, .int .i64 st] w fun e' w' => e' = .returned (.bool true) ∧ Below w.heap.size w w' := by
  have h0' : (n == 0) = false := by simpa using h0
  have h5' : decide (e < a) = false := decide_eq_false h5
  have h6' : decide (d < b) = false := decide_eq_false h6
  have hw1 : IntKind.i64.wrap (3900000000000000000 + b) = 3900000000000000000 + b := by have := rdB_iff.1 h2; rw [IntKind.wrap_i64]; omega
  have hw2 : IntKind.i64.wrap (3900000000000000000 + d) = 3900000000000000000 + d := by have := rdB_iff.1 h3; rw [IntKind.wrap_i64]; omega
  have hX := fun W => of_any (3900000000000000000 + b) W (by have := rdB_iff.1 h2; omega) (by have := rdB_iff.1 h2; omega)
  have hY := fun W => of_any (3900000000000000000 + d) W (by have := rdB_iff.1 h3; omega) (by have := rdB_iff.1 h3; omega)
  have iX := ins_back h2 h4
  have iY := ins_back h3 h4
  have hK := ks_no (id := 0) h7
  have hA : acK st 0 0 (ofN (3900000000000000000 + b)) (ofN (3900000000000000000 + d)) e = 7 := by
    rcases ac_cases st 0 0 (ofN (3900000000000000000 + b)) (ofN (3900000000000000000 + d)) e with ⟨g1, g⟩ | ⟨g1, g2, g⟩ | ⟨g1, g2, g3, g⟩ | ⟨g1, g2, g3, g4, g⟩ | ⟨g1, g2, g3, g4, g5, g⟩ | ⟨g1, g2, g3, g4, g5, g⟩
    · rw [hK] at g1; cases g1
    · rw [sy_yes h7 h8] at g2; cases g2
    · rw [iX.1] at g3; cases g3
    · rw [iY.1] at g4; cases g4
    · rw [iX.2, iY.2] at g5; omega
    · exact g
  have hb : badB (nchk 0 4 4 st 0 0) 4 e n a = false := by
    rw [ex_nchk h7 h8]
    unfold badB
    rw [h4, h5']
    simp
  have hR : rfK (nchk 0 4 4 st 0 0) 4 e n a true n (ofN (3900000000000000000 + d)) 0 = 9 := by
    rcases rf_cases (nchk 0 4 4 st 0 0) 4 e n a true n (ofN (3900000000000000000 + d)) 0 with ⟨g1, g⟩ | ⟨g1, g2, g⟩ | ⟨g1, g2, g3, g⟩ | ⟨g1, g2, g3, g4, g5, g⟩ | ⟨g1, g2, g3, g4, g⟩
    · rw [hb] at g1; cases g1
    · cases g2
    · exact absurd rfl g3
    · omega
    · exact g
  have hS : sendE a n 0 = 0 := by
    rcases sendE_cases a n 0 with ⟨g1, g⟩ | ⟨g1, g2, g⟩ | ⟨g1, g2, g3, g⟩ | ⟨g1, g2, g3, g⟩
    · rw [h1] at g1; cases g1
    · omega
    · omega
    · exact g
  obtain ⟨X, hXe⟩ : ∃ X, X = ofN (3900000000000000000 + b) := ⟨_, rfl⟩
  obtain ⟨Y, hYe⟩ : ∃ Y, Y = ofN (3900000000000000000 + d) := ⟨_, rfl⟩
  rw [← hXe] at hX iX hA
  rw [← hYe] at hY iY hA hR
  have hRc := fun (g : Nat) (W : World) (HW : Blk W g 57 (asL 4 a n true 0 0 0 0 0 0 0 0 0)) => receive_any g 4 a n true 0 0 0 0 0 0 0 0 0 e 0 4 4 st 0 0 0 0 0 0 n X Y 9 7 W HW (fun h => absurd h h0) (by omega) cb0 cb0 cb0 cb0 cb0 cb0 cb0 cb0 hR hA
  rw [iX.2, iY.2, ksS_no hK] at hRc
  have hRc' : ∀ (g : Nat) (W : World), Blk W g 57 (asL 4 a n true 0 0 0 0 0 0 0 0 0) → Calls Try.prog 14 #[.pointer (some ⟨g, 0, none⟩), ntp 0 4 4 st 0 0 0 0 0 0 n X Y, .int .i64 e] W fun e' w' => e' = .returned (.agg (hdL 7 ⟨#[]⟩ a b d e).toArray) ∧ Blk w' g 57 (asL 4 a n false Y 0 0 0 0 0 0 0 1) ∧ But g W w' := hRc
  clear hRc iX iY hA hR hb hXe hYe hK h0 h5 h6
  go_enter Try.func5, Try.ntmps5
  go_wp2_with (first
    | (refine wpl_box (by rfl) 38 _ (by rfl) _ (qdL a b d e) (by rfl) rfl ?_; intro w1 P1 s1 b1)
    | (go_at_call 9; ((with_reducible refine (new_ok 4 _ (by omega) (by omega)).mono ?_); rintro e' w2 ⟨rfl, H2, b2⟩; (have P2 := P1.below b2 (by omega)); (have z2 := H2.lt)))
    | (refine wpl_loadf (by rfl) 3 _ (by rfl) w.heap.size 0 (by rfl) _ _ P2 _ rfl _ Try.underlying3 rfl ?_) | (refine wpl_loadf (by rfl) 3 _ (by rfl) w.heap.size 1 (by rfl) _ _ P2 _ rfl _ Try.underlying3 rfl ?_) | (refine wpl_loadf (by rfl) 3 _ (by rfl) w.heap.size 2 (by rfl) _ _ P2 _ rfl _ Try.underlying3 rfl ?_) | (refine wpl_loadf (by rfl) 3 _ (by rfl) w.heap.size 3 (by rfl) _ _ P2 _ rfl _ Try.underlying3 rfl ?_)
    | (go_at_call 21; ((with_reducible refine (lin_any _ _).mono ?_); rintro e w1 ⟨rfl, rfl⟩))
    | (go_at_call 12; ((with_reducible refine (send_ok w1.heap.size 4 0 0 false 0 0 0 0 0 0 0 0 0 a n _ H2 hS).mono ?_); rintro e' w3 ⟨rfl, H3, g3⟩; (have P3 := P2.but g3 (by omega)); (have z3 := g3.size)))
    | (refine wpl_alloc (by rfl) 31 (by rfl) (.agg (zN).toArray) (zN) zeroNtp rfl ?_; intro w4 J4 s4 b4)
    | (refine wpl_store (by rfl) 31 _ _ (by rfl) w3.heap.size (by rfl) _ (by rfl) _ rfl 31 _ J4 (by rfl) _ sizeNtp (by rfl) (by simp [Value.oneCell']) ?_; intro w5 J5 s5 g5))
  have P5 := (P3.below b4 (by omega)).but g5 (by omega)
  have H5 := (H3.below b4 (by omega)).but g5 (by omega)
  have B5 : Below w.heap.size w w5 := (((b1.trans (b2.mono b1.size)).trans (g3.below (by omega) (by omega))).trans (b4.mono (by omega))).trans (g5.below (by omega) (by omega))
  clear P1 P2 P3 H2 H3 b1 b2 g3 b4 g5 J4 J5
  have hne : w.heap.size ∉ [w1.heap.size] := by simp; omega
  have q1 : Kc _ _ _ _ _ := And.intro (P5.cell (i := 1) rfl) hne
  have q2 : Kc _ _ _ _ _ := And.intro (P5.cell (i := 2) rfl) hne
  have q3 : Kc _ _ _ _ _ := And.intro (P5.cell (i := 3) rfl) hne
  have hN2 : w1.heap.size < w5.heap.size := by omega
  have hN3 : w.heap.size < w1.heap.size := by omega
  clear z2 z3 s4 s5
  have H5d := H5.drew
  go_region_held3 (fun w' => w'.cell? ⟨w.heap.size, 1, none⟩ = some (.int .i64 b) ∧ w'.cell? ⟨w.heap.size, 2, none⟩ = some (.int .i64 d) ∧ w'.cell? ⟨w.heap.size, 3, none⟩ = some (.int .i64 e) ∧ Kp w5 [w1.heap.size] w') (((try go_split_ands); (with_reducible refine kp3 ?_ q1 q2 q3); (repeat (with_reducible first | (refine Kp.set ?_ ?_; rotate_left; (with_reducible first | exact Or.inl (Nat.le_refl _) | exact Or.inr (List.mem_cons_self ..) | (refine Or.inl ?_; assumption) | (refine Or.inl (Kp.size ?_); assumption))) | refine Kp.drew ?_ | refine Kp.alloc _ ?_ | assumption | exact Kp.refl _ _ | exact Kp.belowS hb (by assumption) | exact Kp.but hg (by assumption) (Or.inr (List.mem_cons_self ..)))))) (first
    | (go_at_call 22; ((with_reducible refine (hX _).mono ?_); rintro e' x1 ⟨rfl, hb⟩; (have hKn : Kp w5 [w1.heap.size] x1 := by (go_split_ands; exact Kp.belowS hb (by assumption))); (have hz := Kp.size hKn); (have H' := blk_step (b := w1.heap.size) (t := 57) (by first | assumption | exact Blk.old (by assumption)) hb); (first | (have KB := blk_step (t := 40) (by assumption) hb) | (have KB : Blk _ _ 40 zH := blk_firstD hb) | (have KB : Blk _ w5.heap.size 40 zH := blk_first hb) | skip)))
    | (go_at_call 22; ((with_reducible refine (hY _).mono ?_); rintro e' x2 ⟨rfl, hb⟩; (have hKn : Kp w5 [w1.heap.size] x2 := by (go_split_ands; exact Kp.belowS hb (by assumption))); (have hz := Kp.size hKn); (have H' := blk_step (b := w1.heap.size) (t := 57) (by first | assumption | exact Blk.old (by assumption)) hb); (first | (have KB := blk_step (t := 40) (by assumption) hb) | (have KB : Blk _ _ 40 zH := blk_first hb) | skip)))
    | (go_at_call 14; ((with_reducible refine (hRc' w1.heap.size _ (by first | assumption | exact Blk.old (by assumption))).mono ?_); rintro e' x3 ⟨rfl, HR, hg⟩; (have hKn : Kp w5 [w1.heap.size] x3 := by (go_split_ands; exact Kp.but hg (by assumption) (.inr (List.mem_cons_self ..)))); (have hz := Kp.size hKn); (clear hX hY hRc'); (first | (have KB := blk_stepB (t := 40) (by assumption) hg (by omega); obtain ⟨k0, k1, k2, k3, k4, k5⟩ := cells6 KB; have kf := KB.frozen) | (have KB : Blk _ _ 40 zH := blk_firstB hg (by first | omega | (show w5.heap.size ≠ _; omega)); obtain ⟨k0, k1, k2, k3, k4, k5⟩ := cells6 KB; have kf := KB.frozen) | skip))))
  all_goals
    first
      | (obtain ⟨W, hW, J, HF, KF⟩ := set6_all (v0 := .int .i64 7) (v1 := .string ⟨#[]⟩) (v2 := .int .i64 a) (v3 := .int .i64 b) (v4 := .int .i64 d) (v5 := .int .i64 e) KB HR hKn (by omega) (by omega)
         rw [hW]
         clear HR hKn H5 H5d k0 k1 k2 k3 k4 k5 kf KB hW)
      | (have J : Blk (x3.alloc (.cells #[.int .i64 7, .string ⟨#[]⟩, .int .i64 a, .int .i64 b, .int .i64 d, .int .i64 e] 40)) x3.heap.size 40 (hdL 7 ⟨#[]⟩ a b d e) := Blk.new x3 _ _ _ rfl
         have HF := HR.old (o := .cells #[.int .i64 7, .string ⟨#[]⟩, .int .i64 a, .int .i64 b, .int .i64 d, .int .i64 e] 40)
         have KF := Kp.alloc (.cells #[.int .i64 7, .string ⟨#[]⟩, .int .i64 a, .int .i64 b, .int .i64 d, .int .i64 e] 40) hKn
         clear HR hKn H5 H5d
         generalize x3.alloc (.cells #[.int .i64 7, .string ⟨#[]⟩, .int .i64 a, .int .i64 b, .int .i64 d, .int .i64 e] 40) = W at J HF KF ⊢
         skip)
  all_goals
    have BW := KF.toBelow B5 B5.size (by intro g hg; simp at hg; omega)
    have PW := KF.blk P5 hne
    clear KF P5 B5 hne
    go_wp2_with (first
      | (refine wpl_load (by rfl) 40 _ (by rfl) _ (by rfl) 40 _ J _ Try.underlying40 rfl _ sizeHeard (by rfl) ?_)
      | (refine wpl_load (by rfl) 38 _ (by rfl) w.heap.size (by rfl) 38 _ PW _ Try.underlying38 rfl _ sizeQuad (by rfl) ?_)
      | (go_at_call 18; ((with_reducible refine (pending_any _ _ _ _ _ _ _ _ _ _ _ _ _ _ _ HF).mono ?_); rintro e w1 ⟨rfl, rfl⟩)))
    with_reducible refine (awake_any _).mono ?_
    rintro e wa ⟨rfl, ba⟩
    have Ba := (BW).trans (ba.mono (BW).size)
    go_wp2
    go_ret
    exact ⟨rfl, Ba⟩
set_option maxRecDepth 100000 in
set_option maxHeartbeats 4000000 in
theorem ex_skip (n a b d e st : Int) (w : World) (h : n = 0 ∨ rdB a = false ∨ rdB b = false ∨ rdB d = false ∨ rdB e = false ∨ e < a ∨ d < b ∨ st < 1 ∨ 15 < st) :
    Calls Try.prog 5 #[.int .u64 n, .agg (qdL a b d e).toArray, .int .i64 st] w fun e' w' => e' = .returned (.bool true) ∧ Below w.heap.size w w' := by
  by_cases h0 : n = 0
  · subst h0
    clear h
    go_enter Try.func5, Try.ntmps5
    go_wp2_with (first
      | (refine wpl_box (by rfl) 38 _ (by rfl) _ (qdL a b d e) (by rfl) rfl ?_; intro w1 P1 s1 b1)
      | (go_at_call 9; ((with_reducible refine (new_ok 4 _ (by omega) (by omega)).mono ?_); rintro e' w2 ⟨rfl, H2, b2⟩; (have P2 := P1.below b2 (by omega)); (have z2 := b2.size)))
      | (refine wpl_loadf (by rfl) 3 _ (by rfl) w.heap.size 0 (by rfl) _ _ P2 _ rfl _ Try.underlying3 rfl ?_) | (refine wpl_loadf (by rfl) 3 _ (by rfl) w.heap.size 1 (by rfl) _ _ P2 _ rfl _ Try.underlying3 rfl ?_) | (refine wpl_loadf (by rfl) 3 _ (by rfl) w.heap.size 2 (by rfl) _ _ P2 _ rfl _ Try.underlying3 rfl ?_) | (refine wpl_loadf (by rfl) 3 _ (by rfl) w.heap.size 3 (by rfl) _ _ P2 _ rfl _ Try.underlying3 rfl ?_)
      | (go_at_call 21; ((with_reducible refine (lin_any _ _).mono ?_); rintro e w1 ⟨rfl, rfl⟩)))
    have B2 := b1.trans (b2.mono b1.size)
    clear P1 b1 b2 H2
    with_reducible refine (awake_any _).mono ?_
    rintro e wa ⟨rfl, ba⟩
    have Ba := (B2).trans (ba.mono (B2).size)
    go_wp2
    go_ret
    exact ⟨rfl, Ba⟩
  · have h0' : (n == 0) = false := by simpa using h0
    cases h1 : rdB a with
    | false =>
      clear h h0
      go_enter Try.func5, Try.ntmps5
      go_wp2_with (first
        | (refine wpl_box (by rfl) 38 _ (by rfl) _ (qdL a b d e) (by rfl) rfl ?_; intro w1 P1 s1 b1)
        | (go_at_call 9; ((with_reducible refine (new_ok 4 _ (by omega) (by omega)).mono ?_); rintro e' w2 ⟨rfl, H2, b2⟩; (have P2 := P1.below b2 (by omega)); (have z2 := b2.size)))
        | (refine wpl_loadf (by rfl) 3 _ (by rfl) w.heap.size 0 (by rfl) _ _ P2 _ rfl _ Try.underlying3 rfl ?_) | (refine wpl_loadf (by rfl) 3 _ (by rfl) w.heap.size 1 (by rfl) _ _ P2 _ rfl _ Try.underlying3 rfl ?_) | (refine wpl_loadf (by rfl) 3 _ (by rfl) w.heap.size 2 (by rfl) _ _ P2 _ rfl _ Try.underlying3 rfl ?_) | (refine wpl_loadf (by rfl) 3 _ (by rfl) w.heap.size 3 (by rfl) _ _ P2 _ rfl _ Try.underlying3 rfl ?_)
        | (go_at_call 21; ((with_reducible refine (lin_any _ _).mono ?_); rintro e w1 ⟨rfl, rfl⟩)))
      have B2 := b1.trans (b2.mono b1.size)
      clear P1 b1 b2 H2
      with_reducible refine (awake_any _).mono ?_
      rintro e wa ⟨rfl, ba⟩
      have Ba := (B2).trans (ba.mono (B2).size)
      go_wp2
      go_ret
      exact ⟨rfl, Ba⟩
    | true =>
      cases h2 : rdB b with
      | false =>
        clear h h0
        go_enter Try.func5, Try.ntmps5
        go_wp2_with (first
          | (refine wpl_box (by rfl) 38 _ (by rfl) _ (qdL a b d e) (by rfl) rfl ?_; intro w1 P1 s1 b1)
          | (go_at_call 9; ((with_reducible refine (new_ok 4 _ (by omega) (by omega)).mono ?_); rintro e' w2 ⟨rfl, H2, b2⟩; (have P2 := P1.below b2 (by omega)); (have z2 := b2.size)))
          | (refine wpl_loadf (by rfl) 3 _ (by rfl) w.heap.size 0 (by rfl) _ _ P2 _ rfl _ Try.underlying3 rfl ?_) | (refine wpl_loadf (by rfl) 3 _ (by rfl) w.heap.size 1 (by rfl) _ _ P2 _ rfl _ Try.underlying3 rfl ?_) | (refine wpl_loadf (by rfl) 3 _ (by rfl) w.heap.size 2 (by rfl) _ _ P2 _ rfl _ Try.underlying3 rfl ?_) | (refine wpl_loadf (by rfl) 3 _ (by rfl) w.heap.size 3 (by rfl) _ _ P2 _ rfl _ Try.underlying3 rfl ?_)
          | (go_at_call 21; ((with_reducible refine (lin_any _ _).mono ?_); rintro e w1 ⟨rfl, rfl⟩)))
        have B2 := b1.trans (b2.mono b1.size)
        clear P1 b1 b2 H2
        with_reducible refine (awake_any _).mono ?_
        rintro e wa ⟨rfl, ba⟩
        have Ba := (B2).trans (ba.mono (B2).size)
        go_wp2
        go_ret
        exact ⟨rfl, Ba⟩
      | true =>
        cases h3 : rdB d with
        | false =>
          clear h h0
          go_enter Try.func5, Try.ntmps5
          go_wp2_with (first
            | (refine wpl_box (by rfl) 38 _ (by rfl) _ (qdL a b d e) (by rfl) rfl ?_; intro w1 P1 s1 b1)
            | (go_at_call 9; ((with_reducible refine (new_ok 4 _ (by omega) (by omega)).mono ?_); rintro e' w2 ⟨rfl, H2, b2⟩; (have P2 := P1.below b2 (by omega)); (have z2 := b2.size)))
            | (refine wpl_loadf (by rfl) 3 _ (by rfl) w.heap.size 0 (by rfl) _ _ P2 _ rfl _ Try.underlying3 rfl ?_) | (refine wpl_loadf (by rfl) 3 _ (by rfl) w.heap.size 1 (by rfl) _ _ P2 _ rfl _ Try.underlying3 rfl ?_) | (refine wpl_loadf (by rfl) 3 _ (by rfl) w.heap.size 2 (by rfl) _ _ P2 _ rfl _ Try.underlying3 rfl ?_) | (refine wpl_loadf (by rfl) 3 _ (by rfl) w.heap.size 3 (by rfl) _ _ P2 _ rfl _ Try.underlying3 rfl ?_)
            | (go_at_call 21; ((with_reducible refine (lin_any _ _).mono ?_); rintro e w1 ⟨rfl, rfl⟩)))
          have B2 := b1.trans (b2.mono b1.size)
          clear P1 b1 b2 H2
          with_reducible refine (awake_any _).mono ?_
          rintro e wa ⟨rfl, ba⟩
          have Ba := (B2).trans (ba.mono (B2).size)
          go_wp2
          go_ret
          exact ⟨rfl, Ba⟩
        | true =>
          cases h4 : rdB e with
          | false =>
            clear h h0
            go_enter Try.func5, Try.ntmps5
            go_wp2_with (first
              | (refine wpl_box (by rfl) 38 _ (by rfl) _ (qdL a b d e) (by rfl) rfl ?_; intro w1 P1 s1 b1)
              | (go_at_call 9; ((with_reducible refine (new_ok 4 _ (by omega) (by omega)).mono ?_); rintro e' w2 ⟨rfl, H2, b2⟩; (have P2 := P1.below b2 (by omega)); (have z2 := b2.size)))
              | (refine wpl_loadf (by rfl) 3 _ (by rfl) w.heap.size 0 (by rfl) _ _ P2 _ rfl _ Try.underlying3 rfl ?_) | (refine wpl_loadf (by rfl) 3 _ (by rfl) w.heap.size 1 (by rfl) _ _ P2 _ rfl _ Try.underlying3 rfl ?_) | (refine wpl_loadf (by rfl) 3 _ (by rfl) w.heap.size 2 (by rfl) _ _ P2 _ rfl _ Try.underlying3 rfl ?_) | (refine wpl_loadf (by rfl) 3 _ (by rfl) w.heap.size 3 (by rfl) _ _ P2 _ rfl _ Try.underlying3 rfl ?_)
              | (go_at_call 21; ((with_reducible refine (lin_any _ _).mono ?_); rintro e w1 ⟨rfl, rfl⟩)))
            have B2 := b1.trans (b2.mono b1.size)
            clear P1 b1 b2 H2
            with_reducible refine (awake_any _).mono ?_
            rintro e wa ⟨rfl, ba⟩
            have Ba := (B2).trans (ba.mono (B2).size)
            go_wp2
            go_ret
            exact ⟨rfl, Ba⟩
          | true =>
            by_cases h5 : e < a
            · have h5' : decide (e < a) = true := decide_eq_true h5
              clear h h0
              go_enter Try.func5, Try.ntmps5
              go_wp2_with (first
                | (refine wpl_box (by rfl) 38 _ (by rfl) _ (qdL a b d e) (by rfl) rfl ?_; intro w1 P1 s1 b1)
                | (go_at_call 9; ((with_reducible refine (new_ok 4 _ (by omega) (by omega)).mono ?_); rintro e' w2 ⟨rfl, H2, b2⟩; (have P2 := P1.below b2 (by omega)); (have z2 := b2.size)))
                | (refine wpl_loadf (by rfl) 3 _ (by rfl) w.heap.size 0 (by rfl) _ _ P2 _ rfl _ Try.underlying3 rfl ?_) | (refine wpl_loadf (by rfl) 3 _ (by rfl) w.heap.size 1 (by rfl) _ _ P2 _ rfl _ Try.underlying3 rfl ?_) | (refine wpl_loadf (by rfl) 3 _ (by rfl) w.heap.size 2 (by rfl) _ _ P2 _ rfl _ Try.underlying3 rfl ?_) | (refine wpl_loadf (by rfl) 3 _ (by rfl) w.heap.size 3 (by rfl) _ _ P2 _ rfl _ Try.underlying3 rfl ?_)
                | (go_at_call 21; ((with_reducible refine (lin_any _ _).mono ?_); rintro e w1 ⟨rfl, rfl⟩)))
              have B2 := b1.trans (b2.mono b1.size)
              clear P1 b1 b2 H2
              with_reducible refine (awake_any _).mono ?_
              rintro e wa ⟨rfl, ba⟩
              have Ba := (B2).trans (ba.mono (B2).size)
              go_wp2
              go_ret
              exact ⟨rfl, Ba⟩
            · have h5' : decide (e < a) = false := decide_eq_false h5
              by_cases h6 : d < b
              · have h6' : decide (d < b) = true := decide_eq_true h6
                clear h h0 h5
                go_enter Try.func5, Try.ntmps5
                go_wp2_with (first
                  | (refine wpl_box (by rfl) 38 _ (by rfl) _ (qdL a b d e) (by rfl) rfl ?_; intro w1 P1 s1 b1)
                  | (go_at_call 9; ((with_reducible refine (new_ok 4 _ (by omega) (by omega)).mono ?_); rintro e' w2 ⟨rfl, H2, b2⟩; (have P2 := P1.below b2 (by omega)); (have z2 := b2.size)))
                  | (refine wpl_loadf (by rfl) 3 _ (by rfl) w.heap.size 0 (by rfl) _ _ P2 _ rfl _ Try.underlying3 rfl ?_) | (refine wpl_loadf (by rfl) 3 _ (by rfl) w.heap.size 1 (by rfl) _ _ P2 _ rfl _ Try.underlying3 rfl ?_) | (refine wpl_loadf (by rfl) 3 _ (by rfl) w.heap.size 2 (by rfl) _ _ P2 _ rfl _ Try.underlying3 rfl ?_) | (refine wpl_loadf (by rfl) 3 _ (by rfl) w.heap.size 3 (by rfl) _ _ P2 _ rfl _ Try.underlying3 rfl ?_)
                  | (go_at_call 21; ((with_reducible refine (lin_any _ _).mono ?_); rintro e w1 ⟨rfl, rfl⟩)))
                have B2 := b1.trans (b2.mono b1.size)
                clear P1 b1 b2 H2
                with_reducible refine (awake_any _).mono ?_
                rintro e wa ⟨rfl, ba⟩
                have Ba := (B2).trans (ba.mono (B2).size)
                go_wp2
                go_ret
                exact ⟨rfl, Ba⟩
              · have h6' : decide (d < b) = false := decide_eq_false h6
                by_cases h7 : st < 1
                · clear h h0 h5 h6
                  go_enter Try.func5, Try.ntmps5
                  go_wp2_with (first
                    | (refine wpl_box (by rfl) 38 _ (by rfl) _ (qdL a b d e) (by rfl) rfl ?_; intro w1 P1 s1 b1)
                    | (go_at_call 9; ((with_reducible refine (new_ok 4 _ (by omega) (by omega)).mono ?_); rintro e' w2 ⟨rfl, H2, b2⟩; (have P2 := P1.below b2 (by omega)); (have z2 := b2.size)))
                    | (refine wpl_loadf (by rfl) 3 _ (by rfl) w.heap.size 0 (by rfl) _ _ P2 _ rfl _ Try.underlying3 rfl ?_) | (refine wpl_loadf (by rfl) 3 _ (by rfl) w.heap.size 1 (by rfl) _ _ P2 _ rfl _ Try.underlying3 rfl ?_) | (refine wpl_loadf (by rfl) 3 _ (by rfl) w.heap.size 2 (by rfl) _ _ P2 _ rfl _ Try.underlying3 rfl ?_) | (refine wpl_loadf (by rfl) 3 _ (by rfl) w.heap.size 3 (by rfl) _ _ P2 _ rfl _ Try.underlying3 rfl ?_)
                    | (go_at_call 21; ((with_reducible refine (lin_any _ _).mono ?_); rintro e w1 ⟨rfl, rfl⟩)))
                  have B2 := b1.trans (b2.mono b1.size)
                  clear P1 b1 b2 H2
                  with_reducible refine (awake_any _).mono ?_
                  rintro e wa ⟨rfl, ba⟩
                  have Ba := (B2).trans (ba.mono (B2).size)
                  go_wp2
                  go_ret
                  exact ⟨rfl, Ba⟩
                · have h8 : 15 < st := by rcases h with h | h | h | h | h | h | h | h | h <;> first | omega | (simp [*] at h; done)
                  clear h h0 h5 h6
                  go_enter Try.func5, Try.ntmps5
                  go_wp2_with (first
                    | (refine wpl_box (by rfl) 38 _ (by rfl) _ (qdL a b d e) (by rfl) rfl ?_; intro w1 P1 s1 b1)
                    | (go_at_call 9; ((with_reducible refine (new_ok 4 _ (by omega) (by omega)).mono ?_); rintro e' w2 ⟨rfl, H2, b2⟩; (have P2 := P1.below b2 (by omega)); (have z2 := b2.size)))
                    | (refine wpl_loadf (by rfl) 3 _ (by rfl) w.heap.size 0 (by rfl) _ _ P2 _ rfl _ Try.underlying3 rfl ?_) | (refine wpl_loadf (by rfl) 3 _ (by rfl) w.heap.size 1 (by rfl) _ _ P2 _ rfl _ Try.underlying3 rfl ?_) | (refine wpl_loadf (by rfl) 3 _ (by rfl) w.heap.size 2 (by rfl) _ _ P2 _ rfl _ Try.underlying3 rfl ?_) | (refine wpl_loadf (by rfl) 3 _ (by rfl) w.heap.size 3 (by rfl) _ _ P2 _ rfl _ Try.underlying3 rfl ?_)
                    | (go_at_call 21; ((with_reducible refine (lin_any _ _).mono ?_); rintro e w1 ⟨rfl, rfl⟩)))
                  have B2 := b1.trans (b2.mono b1.size)
                  clear P1 b1 b2 H2
                  with_reducible refine (awake_any _).mono ?_
                  rintro e wa ⟨rfl, ba⟩
                  have Ba := (B2).trans (ba.mono (B2).size)
                  go_wp2
                  go_ret
                  exact ⟨rfl, Ba⟩
theorem cellsQuad : Try.prog.cellsOf 38 = 4 := by kernel_rfl
theorem quad_cells {H : Type} {enc : TypeId × Value → H} {w : World} {base : Nat} {spare : Nat → Bool} {held : Bool} {fuel : Nat} {cs : List Value} {x : DataW H × List MemPlace} (h : DataW.trod enc Try.prog w base spare held fuel 38 cs = some x) :
    ∃ a b d e : Int, cs = qdL a b d e := by
  obtain ⟨hl, hf⟩ := trod_fields Try.underlying38 h
  rw [cellsQuad] at hl
  have k1 : Try.prog.cellsOf 3 = 1 := by kernel_rfl
  match cs, hl with
  | [c0, c1, c2, c3], _ =>
    obtain ⟨y0, n0, h0⟩ := hf 0 _ rfl
    obtain ⟨a, e0, _, wf0⟩ := DataW.trod_int Try.underlying3 h0
    obtain ⟨y1, n1, h1⟩ := hf 1 _ rfl
    obtain ⟨b, e1, _, wf1⟩ := DataW.trod_int Try.underlying3 h1
    obtain ⟨y2, n2, h2⟩ := hf 2 _ rfl
    obtain ⟨d, e2, _, wf2⟩ := DataW.trod_int Try.underlying3 h2
    obtain ⟨y3, n3, h3⟩ := hf 3 _ rfl
    obtain ⟨e, e3, _, wf3⟩ := DataW.trod_int Try.underlying3 h3
    simp [k1] at e0 e1 e2 e3
    subst e0 e1 e2 e3
    exact ⟨a, b, d, e, rfl⟩
theorem exLaw (n a b d e st : Int) (w : World) :
    Calls Try.prog 5 #[.int .u64 n, .agg (qdL a b d e).toArray, .int .i64 st] w fun e' w' => e' = .returned (.bool true) ∧ Below w.heap.size w w' := by
  by_cases h : n = 0 ∨ rdB a = false ∨ rdB b = false ∨ rdB d = false ∨ rdB e = false ∨ e < a ∨ d < b ∨ st < 1 ∨ 15 < st
  · exact ex_skip n a b d e st w h
  · simp only [not_or, Bool.not_eq_false] at h
    obtain ⟨h0, h1, h2, h3, h4, h5, h6, h7, h8⟩ := h
    exact exch_ok n a b d e st w h0 h1 h2 h3 h4 h5 h6 (by omega) (by omega)
namespace lawExchange
set_option maxRecDepth 100000 in
theorem lifted (os : Os) (started : os.Started) (H : Type) (enc : TypeId × Value → H) :
    ReturnsInHanded {} Try.checked os 5 .any (Rows.assocExchangeSpec.pre6 enc Try.prog Try.f5 Rows.assocExchangeRow.domain false) (Rows.assocExchangeSpec.post enc Try.prog Try.f5 false true false false) := by
  refine returnsInHanded_of_change (C := Try.checked) own started (by kernel_rfl) Try.func5
    (ChangeSpec.witness6 (enc := enc) (C := Try.checked) false ⟨#[], #[.int .u64 0, .agg #[.int .i64 0, .int .i64 0, .int .i64 0, .int .i64 0], .int .i64 0], []⟩ 8 (by kernel_rfl) (by kernel_rfl) (by kernel_rfl) (by kernel_rfl)) ?_
  intro W base args ds gs before hval0 hW hcnd _
  have hval : ∀ (j : Nat) t v, Try.f5.params[j]? = some t → args[j]? = some v → Value.okWide Try.prog W .any base t v := hval0
  have hW' := hW
  obtain ⟨p, q, hA0, hV, rfl, hfz, hnd⟩ := hW
  have hA : DataW.TrodAll enc Try.prog W 0 (fun _ => true) true Try.f5.params.toList args.toList ds p := hA0
  rw [Try.params5] at hA hval
  obtain ⟨rfl, rfl⟩ := trodVars_none hV
  obtain ⟨v0, v1, v2, d0, d1, d2, p0, p1, p2, rfl, rfl, rfl, h0, h1, h2⟩ := trodAll_three hA
  obtain ⟨n, rfl, rfl, rfl, wf_n⟩ := open_int Try.underlying28 (hval 0 28 v0 rfl rfl) h0
  obtain ⟨cs, fuel, x, rfl, hx⟩ := open_struct Try.underlying38 (hval 1 38 v1 rfl rfl) h1
  obtain ⟨a, b, d, e, rfl⟩ := quad_cells hx
  obtain ⟨st, rfl, rfl, rfl, wf_st⟩ := open_int Try.underlying3 (hval 2 3 v2 rfl rfl) h2
  refine (exLaw n a b d e st W).mono fun e W' ⟨he, hb⟩ => ?_
  subst he
  revert hb
  simp only [List.append_nil] at hW'
  intro hb
  exact ⟨_, rfl, law_post (tb := 4) laidOut Try.underlying4 rfl (by rw [Try.params5]; intro t ht; revert ht; revert t; exact of_decide_eq_true (by kernel_rfl)) rfl rfl rfl rfl hW' hb⟩
theorem over : Rows.assocExchangeRow.holds Try.pinned (OpenSpec.ofChange Rows.assocExchangeSpec) :=
  OpenClaim.holds_of_wide 5 Try.f5 rfl rfl rfl rfl rfl rfl rfl ⟨rfl, rfl, rfl, rfl, rfl⟩ rfl rfl rfl rfl rfl (by kernel_rfl) Try.func5 (by kernel_rfl)
    (of_decide_eq_true (by kernel_rfl)) (by unfold Func.isWrapper; first | (rw [if_pos (by decide +kernel)]; kernel_rfl) | (rw [if_neg (by decide +kernel)]; exact ⟨rfl, rfl⟩))
    (fun os started H enc _ => lifted os started H enc)
theorem proved : Rows.AssocExchangeSaid :=
  over
#print axioms proved
end lawExchange
end Go.Proofs.Ytickoncgnjgciaa
