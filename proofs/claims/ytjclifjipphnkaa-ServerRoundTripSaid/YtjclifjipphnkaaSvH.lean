/- ServerReplies (P30.1): for every input the law returns true, and its arguments read afterwards as before. No condition. -/
import Derived.Test.YtjclifjipphnkaaSvG
import Derived.Test.YtjclifjipphnkaaFields
namespace Go.Proofs.Ytjclifjipphnkaa
open Go.ChangeShapes Go.WideShapes Go.ChangeAt Go.RowKit Go.Joins
set_option linter.unusedSimpArgs false
set_option linter.unusedVariables false
set_option maxRecDepth 100000
abbrev spL (a b c : Int) : List Value := [.int .u64 a, .int .u64 b, .int .u64 c]
set_option maxHeartbeats 4000000 in
theorem repliesLaw (l v m st po pr rd rp id ref org rec xmt tr tx tf s d p r lp pc : Int) (w : World) :
    Calls Try.prog 3 #[ntp l v m st po pr rd rp id ref org rec xmt, .agg (spL tr tx tf).toArray, root s d p r, .int .i64 lp, .int .i64 pc] w fun e w' => e = .returned (.bool true) ∧ Below w.heap.size w w' := by
  obtain ⟨x0, x1, x2, x3, x4, x5, x6, x7, x8, x9, x10, x11, x12, k, hP, hR⟩ := reply_both l v m st po pr rd rp id ref org rec xmt tr tx tf s d p r lp pc
  go_enter Try.func3, Try.ntmps3
  go_wp2_with (first
    | (refine wpl_box (by rfl) 25 _ (by rfl) _ ([.int .i64 l, .int .i64 v, .int .i64 m, .int .i64 st, .int .i64 po, .int .i64 pr, .int .u32 rd, .int .u32 rp, .int .u32 id, .int .u64 ref, .int .u64 org, .int .u64 rec, .int .u64 xmt]) (by rfl) rfl ?_; intro w1 P1 s1 b1)
    | ((refine wpl_box (by rfl) 27 _ (by rfl) _ (spL tr tx tf) (by rfl) rfl ?_; intro w2 T2 s2 b2); (have P2 := P1.below b2 (by omega)))
    | ((refine wpl_box (by rfl) 29 _ (by rfl) _ (rtL s d p r) (by rfl) rfl ?_; intro w3 R3 s3 b3); (have P3 := P2.below b3 (by omega)); (have T3 := T2.below b3 (by omega)))
    | (refine wpl_load (by rfl) 25 _ (by rfl) w.heap.size (by rfl) 25 _ P3 _ Try.underlying25 rfl _ sizeNtp (by rfl) ?_) | (refine wpl_loadf (by rfl) 23 _ (by rfl) w1.heap.size 0 (by rfl) _ _ T3 _ rfl _ Try.underlying23 rfl ?_) | (refine wpl_loadf (by rfl) 23 _ (by rfl) w1.heap.size 1 (by rfl) _ _ T3 _ rfl _ Try.underlying23 rfl ?_) | (refine wpl_loadf (by rfl) 23 _ (by rfl) w1.heap.size 2 (by rfl) _ _ T3 _ rfl _ Try.underlying23 rfl ?_) | (refine wpl_load (by rfl) 29 _ (by rfl) w2.heap.size (by rfl) 29 _ R3 _ Try.underlying29 rfl _ sizeRoot (by rfl) ?_))
  have B3 := (b1.trans (b2.mono (by omega))).trans (b3.mono (by omega))
  clear P1 P2 T2 b1 b2 b3
  with_reducible refine (hP w3).mono ?_
  rintro e w4 ⟨rfl, b4⟩
  have P4 := P3.below b4 (by omega)
  have T4 := T3.below b4 (by omega)
  have R4 := R3.below b4 (by omega)
  have B4 := B3.trans (b4.mono B3.size)
  have z4 := b4.size
  clear P3 T3 R3 B3 b4
  go_wp2_with (first
    | (refine wpl_alloc (by rfl) 25 (by rfl) (.agg (zN).toArray) (zN) zeroNtp rfl ?_; intro w5 J5 s5 b5)
    | ((refine wpl_store (by rfl) 25 _ _ (by rfl) w4.heap.size (by rfl) _ (by rfl) _ rfl 25 _ J5 (by rfl) _ sizeNtp (by rfl) (by simp [Value.oneCell']) ?_; intro w6 J6 s6 g6); (have P6 := (P4.below b5 (by omega)).but g6 (by omega)); (have T6 := (T4.below b5 (by omega)).but g6 (by omega)); (have R6 := (R4.below b5 (by omega)).but g6 (by omega)))
    | (refine wpl_load (by rfl) 25 _ (by rfl) w.heap.size (by rfl) 25 _ P6 _ Try.underlying25 rfl _ sizeNtp (by rfl) ?_) | (refine wpl_loadf (by rfl) 23 _ (by rfl) w1.heap.size 0 (by rfl) _ _ T6 _ rfl _ Try.underlying23 rfl ?_) | (refine wpl_loadf (by rfl) 23 _ (by rfl) w1.heap.size 1 (by rfl) _ _ T6 _ rfl _ Try.underlying23 rfl ?_) | (refine wpl_loadf (by rfl) 23 _ (by rfl) w1.heap.size 2 (by rfl) _ _ T6 _ rfl _ Try.underlying23 rfl ?_) | (refine wpl_load (by rfl) 29 _ (by rfl) w2.heap.size (by rfl) 29 _ R6 _ Try.underlying29 rfl _ sizeRoot (by rfl) ?_))
  have B6 := (B4.trans (b5.mono (by omega))).trans (g6.below (by omega) (by omega))
  have z6 := J6.lt
  clear P4 T4 R4 B4 b5 g6 J5 P6 T6 R6
  with_reducible refine (hR w6).mono ?_
  rintro e w7 ⟨rfl, b7⟩
  have J7 := J6.below b7 z6
  have B7 := B6.trans (b7.mono B6.size)
  have z7 := b7.size
  clear J6 B6 b7
  go_wp2_with (first
    | (refine wpl_alloc (by rfl) 25 (by rfl) (.agg (zN).toArray) (zN) zeroNtp rfl ?_; intro w8 K8 s8 b8)
    | ((refine wpl_store (by rfl) 25 _ _ (by rfl) w7.heap.size (by rfl) _ (by rfl) _ rfl 25 _ K8 (by rfl) _ sizeNtp (by rfl) (by simp [Value.oneCell']) ?_; intro w9 K9 s9 g9); (have J9 := (J7.below b8 (by omega)).but g9 (by omega)))
    | (refine wpl_load (by rfl) 25 _ (by rfl) w4.heap.size (by rfl) 25 _ J9 _ Try.underlying25 rfl _ sizeNtp (by rfl) ?_) | (refine wpl_load (by rfl) 25 _ (by rfl) w7.heap.size (by rfl) 25 _ K9 _ Try.underlying25 rfl _ sizeNtp (by rfl) ?_))
  have B9 := (B7.trans (b8.mono (by omega))).trans (g9.below (by omega) (by omega))
  clear J7 B7 b8 g9 K8 J9 K9
  with_reducible refine (awake_any _).mono ?_
  rintro e wa ⟨rfl, ba⟩
  have Ba := (B9).trans (ba.mono (B9).size)
  go_wp2
  go_ret
  exact ⟨rfl, Ba⟩
theorem cellsRoot : Try.prog.cellsOf 29 = 4 := by kernel_rfl
theorem cellsStamps : Try.prog.cellsOf 27 = 3 := by kernel_rfl
theorem root_cells {H : Type} {enc : TypeId × Value → H} {w : World} {base : Nat} {spare : Nat → Bool} {held : Bool} {fuel : Nat} {cs : List Value} {x : DataW H × List MemPlace} (h : DataW.trod enc Try.prog w base spare held fuel 29 cs = some x) :
    ∃ s d p r : Int, cs = rtL s d p r ∧ 0 ≤ r ∧ r ≤ 4294967295 := by
  obtain ⟨hl, hf⟩ := trod_fields Try.underlying29 h
  rw [cellsRoot] at hl
  have k1 : Try.prog.cellsOf 3 = 1 := by kernel_rfl
  have k2 : Try.prog.cellsOf 22 = 1 := by kernel_rfl
  match cs, hl with
  | [c0, c1, c2, c3], _ =>
    obtain ⟨y0, n0, h0⟩ := hf 0 _ rfl
    obtain ⟨a, e0, _, wf0⟩ := DataW.trod_int Try.underlying3 h0
    obtain ⟨y1, n1, h1⟩ := hf 1 _ rfl
    obtain ⟨b, e1, _, wf1⟩ := DataW.trod_int Try.underlying3 h1
    obtain ⟨y2, n2, h2⟩ := hf 2 _ rfl
    obtain ⟨d, e2, _, wf2⟩ := DataW.trod_int Try.underlying3 h2
    obtain ⟨y3, n3, h3⟩ := hf 3 _ rfl
    obtain ⟨e, e3, _, wf3⟩ := DataW.trod_int Try.underlying22 h3
    simp [k1, k2] at e0 e1 e2 e3
    subst e0 e1 e2 e3
    exact ⟨a, b, d, e, rfl, bounds_u32 wf3⟩
theorem stamps_cells {H : Type} {enc : TypeId × Value → H} {w : World} {base : Nat} {spare : Nat → Bool} {held : Bool} {fuel : Nat} {cs : List Value} {x : DataW H × List MemPlace} (h : DataW.trod enc Try.prog w base spare held fuel 27 cs = some x) :
    ∃ a b c : Int, cs = spL a b c ∧ (0 ≤ a ∧ a ≤ 18446744073709551615) ∧ (0 ≤ b ∧ b ≤ 18446744073709551615) ∧ (0 ≤ c ∧ c ≤ 18446744073709551615) := by
  obtain ⟨hl, hf⟩ := trod_fields Try.underlying27 h
  rw [cellsStamps] at hl
  have k1 : Try.prog.cellsOf 23 = 1 := by kernel_rfl
  match cs, hl with
  | [c0, c1, c2], _ =>
    obtain ⟨y0, n0, h0⟩ := hf 0 _ rfl
    obtain ⟨a, e0, _, wf0⟩ := DataW.trod_int Try.underlying23 h0
    obtain ⟨y1, n1, h1⟩ := hf 1 _ rfl
    obtain ⟨b, e1, _, wf1⟩ := DataW.trod_int Try.underlying23 h1
    obtain ⟨y2, n2, h2⟩ := hf 2 _ rfl
    obtain ⟨d, e2, _, wf2⟩ := DataW.trod_int Try.underlying23 h2
    simp [k1] at e0 e1 e2
    subst e0 e1 e2
    exact ⟨a, b, d, rfl, bounds_u64 wf0, bounds_u64 wf1, bounds_u64 wf2⟩
theorem trodAll_fives {H : Type} {enc : TypeId × Value → H} {P : Program} {w : World} {base : Nat} {spare : Nat → Bool} {held : Bool} {t0 t1 t2 t3 t4 : TypeId} {vs : List Value} {ds : List (DataW H)} {ps : List MemPlace} (h : DataW.TrodAll enc P w base spare held [t0, t1, t2, t3, t4] vs ds ps) :
    ∃ v0 v1 v2 v3 v4 d0 d1 d2 d3 d4 p0 p1 p2 p3 p4, vs = [v0, v1, v2, v3, v4] ∧ ds = [d0, d1, d2, d3, d4] ∧ DataW.Trod enc P w base spare held t0 v0 d0 p0 ∧ DataW.Trod enc P w base spare held t1 v1 d1 p1 ∧ DataW.Trod enc P w base spare held t2 v2 d2 p2 ∧ DataW.Trod enc P w base spare held t3 v3 d3 p3 ∧ DataW.Trod enc P w base spare held t4 v4 d4 p4 := by
  obtain ⟨v0, vs0, d0, ds0, p0, q0, rfl, rfl, _, h0, r0⟩ := trodAll_cons h
  obtain ⟨v1, vs1, d1, ds1, p1, q1, rfl, rfl, _, h1, r1⟩ := trodAll_cons r0
  obtain ⟨v2, vs2, d2, ds2, p2, q2, rfl, rfl, _, h2, r2⟩ := trodAll_cons r1
  obtain ⟨v3, vs3, d3, ds3, p3, q3, rfl, rfl, _, h3, r3⟩ := trodAll_cons r2
  obtain ⟨v4, vs4, d4, ds4, p4, q4, rfl, rfl, _, h4, r4⟩ := trodAll_cons r3
  obtain ⟨rfl, rfl, _⟩ := trodAll_nil r4
  exact ⟨v0, v1, v2, v3, v4, d0, d1, d2, d3, d4, p0, p1, p2, p3, p4, rfl, rfl, h0, h1, h2, h3, h4⟩
namespace lawReplies
set_option maxRecDepth 100000 in
theorem lifted (os : Os) (started : os.Started) (H : Type) (enc : TypeId × Value → H) :
    ReturnsInHanded {} Try.checked os 3 .any (Rows.serverRepliesSpec.pre6 enc Try.prog Try.f3 Rows.serverRepliesRow.domain false) (Rows.serverRepliesSpec.post enc Try.prog Try.f3 false true false false) := by
  refine returnsInHanded_of_change (C := Try.checked) own started (by kernel_rfl) Try.func3
    (ChangeSpec.witness6 (enc := enc) (C := Try.checked) false ⟨#[], #[ntp 0 0 0 0 0 0 0 0 0 0 0 0 0, .agg #[.int .u64 0, .int .u64 0, .int .u64 0], root 0 0 0 0, .int .i64 0, .int .i64 0], []⟩ 8 (by kernel_rfl) (by kernel_rfl) (by kernel_rfl) (by kernel_rfl)) ?_
  intro W base args ds gs before hval0 hW hcnd _
  have hval : ∀ (j : Nat) t v, Try.f3.params[j]? = some t → args[j]? = some v → Value.okWide Try.prog W .any base t v := hval0
  have hW' := hW
  obtain ⟨p, q, hA0, hV, rfl, hfz, hnd⟩ := hW
  have hA : DataW.TrodAll enc Try.prog W 0 (fun _ => true) true Try.f3.params.toList args.toList ds p := hA0
  rw [Try.params3] at hA hval
  obtain ⟨rfl, rfl⟩ := trodVars_none hV
  obtain ⟨v0, v1, v2, v3, v4, d0, d1, d2, d3, d4, p0, p1, p2, p3, p4, ea, rfl, h0, h1, h2, h3, h4⟩ := trodAll_fives hA
  obtain ⟨args⟩ := args
  obtain rfl : args = [v0, v1, v2, v3, v4] := ea
  obtain ⟨l, v, m, st, po, pr, rd, rp, id, ref, org, rec, xmt, rfl, b0, b1, b2, b3, b4, b5, b6, b7, b8, b9, b10, b11, b12⟩ := open_ntp (hval 0 25 v0 rfl rfl) h0
  obtain ⟨cs1, fuel1, x1, rfl, hx1⟩ := open_struct Try.underlying27 (hval 1 27 v1 rfl rfl) h1
  obtain ⟨tr, tx, tf, rfl, _, _, _⟩ := stamps_cells hx1
  obtain ⟨cs2, fuel2, x2, rfl, hx2⟩ := open_struct Try.underlying29 (hval 2 29 v2 rfl rfl) h2
  obtain ⟨s, dd, p, r, rfl, _, _⟩ := root_cells hx2
  obtain ⟨lp, rfl, rfl, rfl, wf_lp⟩ := open_int Try.underlying3 (hval 3 3 v3 rfl rfl) h3
  obtain ⟨pc, rfl, rfl, rfl, wf_pc⟩ := open_int Try.underlying3 (hval 4 3 v4 rfl rfl) h4
  refine (repliesLaw l v m st po pr rd rp id ref org rec xmt tr tx tf s dd p r lp pc W).mono fun e W' ⟨he, hb⟩ => ?_
  subst he
  revert hb
  simp only [List.append_nil] at hW'
  intro hb
  exact ⟨_, rfl, law_post (tb := 4) laidOut Try.underlying4 rfl (by rw [Try.params3]; intro t ht; revert ht; revert t; exact of_decide_eq_true (by kernel_rfl)) rfl rfl rfl rfl hW' hb⟩
theorem over : Rows.serverRepliesRow.holds Try.pinned (OpenSpec.ofChange Rows.serverRepliesSpec) :=
  OpenClaim.holds_of_wide 3 Try.f3 rfl rfl rfl rfl rfl rfl rfl ⟨rfl, rfl, rfl, rfl, rfl⟩ rfl rfl rfl rfl rfl (by kernel_rfl) Try.func3 (by kernel_rfl)
    (of_decide_eq_true (by kernel_rfl)) (by unfold Func.isWrapper; first | (rw [if_pos (by decide +kernel)]; kernel_rfl) | (rw [if_neg (by decide +kernel)]; exact ⟨rfl, rfl⟩))
    (fun os started H enc _ => lifted os started H enc)
theorem proved : Rows.ServerRepliesSaid :=
  over
#print axioms proved
end lawReplies
end Go.Proofs.Ytjclifjipphnkaa
