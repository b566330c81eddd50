/- AssocNobody (P31.2, P31.3, P31.4): for every input the law returns true, and its argument reads afterwards as before. No condition. -/
import Derived.Test.YtickoncgnjgciaaAsK
import Derived.Test.YtickoncgnjgciaaFields
namespace Go.Proofs.Ytickoncgnjgciaa
open Go.ChangeShapes Go.WideShapes Go.ChangeAt Go.RowKit Go.Joins
set_option linter.unusedSimpArgs false
set_option linter.unusedVariables false
set_option maxRecDepth 100000 in
theorem send_nil (now n : Int) (w : World) : Calls Try.prog 12 #[.pointer none, .int .i64 now, .int .u64 n] w fun e w' => e = .returned (.tuple #[ntp0, .int .i64 1]) ∧ Below w.heap.size w w' := by
  go_enter Try.func12, Try.ntmps12
  go_wp2_with (first | (refine wpl_alloc (by rfl) 31 (by rfl) (.agg (zN).toArray) (zN) zeroNtp rfl ?_; intro w1 J1 s1 b1) | (refine wpl_store (by rfl) 31 _ _ (by rfl) w.heap.size (by rfl) _ (by rfl) _ rfl 31 _ J1 (by rfl) _ sizeNtp (by rfl) (by simp [Value.oneCell']) ?_; intro w2 J2 s2 g2))
  obtain ⟨k0, k1, k2, k3, k4, k5, k6, k7, k8, k9, k10, k11, k12⟩ := cells13 J2
  refine bodyPost_ret (v := .tuple #[ntp0, .int .i64 1]) (by simp [results, Try.results12, go_sem, k0, k1, k2, k3, k4, k5, k6, k7, k8, k9, k10, k11, k12]) rfl ?_
  exact ⟨rfl, b1.trans (g2.below (by omega) (Nat.le_refl _))⟩
set_option maxRecDepth 100000 in
theorem receive_nil (l v m st po pr rd rp id ref org rec xmt now : Int) (w : World) : Calls Try.prog 14 #[.pointer none, ntp l v m st po pr rd rp id ref org rec xmt, .int .i64 now] w fun e w' => e = .returned (.agg (hdL 0 ⟨#[]⟩ 0 0 0 0).toArray) ∧ Below w.heap.size w w' := by
  go_enter Try.func14, Try.ntmps14
  go_wp2_with (first | (refine wpl_box (by rfl) 31 _ (by rfl) _ ([.int .i64 l, .int .i64 v, .int .i64 m, .int .i64 st, .int .i64 po, .int .i64 pr, .int .u32 rd, .int .u32 rp, .int .u32 id, .int .u64 ref, .int .u64 org, .int .u64 rec, .int .u64 xmt]) (by rfl) rfl ?_; intro w1 P1 s1 b1) | (refine wpl_alloc (by rfl) 40 (by rfl) (.agg (zH).toArray) (zH) zeroHeard rfl ?_; intro w2 J2 s2 b2) | (refine wpl_store (by rfl) 40 _ _ (by rfl) w1.heap.size (by rfl) _ (by rfl) _ rfl 40 _ J2 (by rfl) _ sizeHeard (by rfl) (by simp [Value.oneCell']) ?_; intro w3 J3 s3 g3))
  obtain ⟨k0, k1, k2, k3, k4, k5⟩ := cells6 J3
  refine bodyPost_ret (v := .agg (hdL 0 ⟨#[]⟩ 0 0 0 0).toArray) (by simp [results, Try.results14, go_sem, k0, k1, k2, k3, k4, k5]) rfl ?_
  exact ⟨rfl, (b1.trans (b2.mono (by omega))).trans (g3.below (by omega) (by omega))⟩
theorem pending_nil (w : World) : Calls Try.prog 18 #[.pointer none] w fun e w' => e = .returned (.bool false) ∧ w = w' := by
  go_enter Try.func18, Try.ntmps18
  go_wp2
  go_ret
  exact ⟨rfl, rfl⟩
theorem counts_nil (w : World) : Calls Try.prog 16 #[.pointer none] w fun e w' => e = .returned (.slice none 0 0) ∧ w = w' := by
  go_enter Try.func16, Try.ntmps16
  go_wp2
  go_ret
  exact ⟨rfl, rfl⟩
set_option maxRecDepth 100000 in
set_option maxHeartbeats 2000000 in
theorem nobodyLaw (k now n l v m st po pr rd rp id ref org rec xmt : Int) (w : World) :
    Calls Try.prog 8 #[.agg ([.int .i64 k, .int .i64 now, .int .u64 n, .int .i64 l, .int .i64 v, .int .i64 m, .int .i64 st, .int .i64 po, .int .i64 pr, .int .u32 rd, .int .u32 rp, .int .u32 id, .int .u64 ref, .int .u64 org, .int .u64 rec, .int .u64 xmt]).toArray] w fun e w' => e = .returned (.bool true) ∧ Below w.heap.size w w' := by
  go_enter Try.func8, Try.ntmps8
  go_wp2_with (first | (refine wpl_box (by rfl) 33 _ (by rfl) _ ([.int .i64 k, .int .i64 now, .int .u64 n, .int .i64 l, .int .i64 v, .int .i64 m, .int .i64 st, .int .i64 po, .int .i64 pr, .int .u32 rd, .int .u32 rp, .int .u32 id, .int .u64 ref, .int .u64 org, .int .u64 rec, .int .u64 xmt]) (by rfl) rfl ?_; intro w1 P1 s1 b1) | (refine wpl_loadf (by rfl) 3 _ (by rfl) w.heap.size 1 (by rfl) _ _ P1 _ rfl _ Try.underlying3 rfl ?_) | (refine wpl_loadf (by rfl) 28 _ (by rfl) w.heap.size 2 (by rfl) _ _ P1 _ rfl _ Try.underlying28 rfl ?_))
  with_reducible refine (send_nil now n w1).mono ?_
  rintro e w2 ⟨rfl, b2⟩
  have P2 := P1.below b2 (by omega)
  have B2 := b1.trans (b2.mono b1.size)
  have z2 := b2.size
  clear P1 b1 b2
  go_wp2_with (first
    | (refine wpl_alloc (by rfl) 31 (by rfl) (.agg (zN).toArray) (zN) zeroNtp rfl ?_; intro w3 J3 s3 b3) | (refine wpl_store (by rfl) 31 _ _ (by rfl) w2.heap.size (by rfl) _ (by rfl) _ rfl 31 _ J3 (by rfl) _ sizeNtp (by rfl) (by simp [Value.oneCell']) ?_; intro w4 J4 s4 g4) | (refine wpl_load (by rfl) 31 _ (by rfl) w2.heap.size (by rfl) 31 _ J4 _ Try.underlying31 rfl _ sizeNtp (by rfl) ?_)
    | (refine wpl_loadm (by rfl) 31 _ (by rfl) w.heap.size 3 (by rfl) _ _ ((P2.below b3 (by omega)).but g4 (by omega)) _ _ Try.underlying31 rfl _ sizeNtp (by rfl) (by rfl) ?_)
    | (refine wpl_loadf (by rfl) 3 _ (by rfl) w.heap.size 1 (by rfl) _ _ ((P2.below b3 (by omega)).but g4 (by omega)) _ rfl _ Try.underlying3 rfl ?_))
  have B4 := (B2.trans (b3.mono B2.size)).trans (g4.below (by omega) (by omega))
  clear P2 B2 b3 g4 J3 J4
  with_reducible refine (receive_nil l v m st po pr rd rp id ref org rec xmt now w4).mono ?_
  rintro e w5 ⟨rfl, b5⟩
  have B5 := B4.trans (b5.mono B4.size)
  clear B4 b5
  go_wp2_with (first | (go_at_call 18; ((with_reducible refine (pending_nil _).mono ?_); rintro e w1 ⟨rfl, rfl⟩)) | (go_at_call 16; ((with_reducible refine (counts_nil _).mono ?_); rintro e w1 ⟨rfl, rfl⟩)))
  with_reducible refine (awake_any _).mono ?_
  rintro e wa ⟨rfl, ba⟩
  have Ba := (B5).trans (ba.mono (B5).size)
  go_wp2
  go_ret
  exact ⟨rfl, Ba⟩
theorem cellsOp : Try.prog.cellsOf 33 = 16 := by kernel_rfl
theorem op_cells {H : Type} {enc : TypeId × Value → H} {w : World} {base : Nat} {spare : Nat → Bool} {held : Bool} {fuel : Nat} {cs : List Value} {x : DataW H × List MemPlace} (h : DataW.trod enc Try.prog w base spare held fuel 33 cs = some x) :
    ∃ k now n l v m st po pr rd rp id ref org rec xmt : Int, cs = [.int .i64 k, .int .i64 now, .int .u64 n, .int .i64 l, .int .i64 v, .int .i64 m, .int .i64 st, .int .i64 po, .int .i64 pr, .int .u32 rd, .int .u32 rp, .int .u32 id, .int .u64 ref, .int .u64 org, .int .u64 rec, .int .u64 xmt] ∧ (-9223372036854775808 ≤ k ∧ k ≤ 9223372036854775807) ∧ (-9223372036854775808 ≤ now ∧ now ≤ 9223372036854775807) ∧ (0 ≤ n ∧ n ≤ 18446744073709551615) ∧ (0 ≤ id ∧ id ≤ 4294967295) ∧ (0 ≤ org ∧ org ≤ 18446744073709551615) ∧ (0 ≤ rec ∧ rec ≤ 18446744073709551615) ∧ (0 ≤ xmt ∧ xmt ≤ 18446744073709551615) := by
  obtain ⟨hl, hf⟩ := trod_fields Try.underlying33 h
  rw [cellsOp] at hl
  have k1 : Try.prog.cellsOf 3 = 1 := by kernel_rfl
  have k3 : Try.prog.cellsOf 28 = 1 := by kernel_rfl
  match cs, hl with
  | [c0, c1, c2, c3, c4, c5, c6, c7, c8, c9, c10, c11, c12, c13, c14, c15], _ =>
    obtain ⟨y0, n0, h0⟩ := hf 0 _ rfl
    obtain ⟨k, e0, _, wf0⟩ := DataW.trod_int Try.underlying3 h0
    obtain ⟨y1, n1, h1⟩ := hf 1 _ rfl
    obtain ⟨now, e1, _, wf1⟩ := DataW.trod_int Try.underlying3 h1
    obtain ⟨y2, n2, h2⟩ := hf 2 _ rfl
    obtain ⟨n, e2, _, wf2⟩ := DataW.trod_int Try.underlying28 h2
    obtain ⟨y3, n3, h3⟩ := hf 3 _ rfl
    obtain ⟨l, v, m, st, po, pr, rd, rp, id, ref, org, rec, xmt, e3, b0, b1, b2, b3, b4, b5, b6, b7, b8, b9, b10, b11, b12⟩ := ntp_cells h3
    simp [k1, k3, cellsNtp] at e0 e1 e2 e3
    obtain ⟨e3, e4, e5, e6, e7, e8, e9, e10, e11, e12, e13, e14, e15⟩ := e3
    subst e0 e1 e2 e3 e4 e5 e6 e7 e8 e9 e10 e11 e12 e13 e14 e15
    exact ⟨k, now, n, l, v, m, st, po, pr, rd, rp, id, ref, org, rec, xmt, rfl, bounds_i64 wf0, bounds_i64 wf1, bounds_u64 wf2, b8, b10, b11, b12⟩
namespace lawNobody
set_option maxRecDepth 100000 in
theorem lifted (os : Os) (started : os.Started) (H : Type) (enc : TypeId × Value → H) :
    ReturnsInHanded {} Try.checked os 8 .any (Rows.assocNobodySpec.pre6 enc Try.prog Try.f8 Rows.assocNobodyRow.domain false) (Rows.assocNobodySpec.post enc Try.prog Try.f8 false true false false) := by
  refine returnsInHanded_of_change (C := Try.checked) own started (by kernel_rfl) Try.func8
    (ChangeSpec.witness6 (enc := enc) (C := Try.checked) false ⟨#[], #[.agg #[.int .i64 0, .int .i64 0, .int .u64 0, .int .i64 0, .int .i64 0, .int .i64 0, .int .i64 0, .int .i64 0, .int .i64 0, .int .u32 0, .int .u32 0, .int .u32 0, .int .u64 0, .int .u64 0, .int .u64 0, .int .u64 0]], []⟩ 8 (by kernel_rfl) (by kernel_rfl) (by kernel_rfl) (by kernel_rfl)) ?_
  intro W base args ds gs before hval0 hW hcnd _
  have hval : ∀ (j : Nat) t v, Try.f8.params[j]? = some t → args[j]? = some v → Value.okWide Try.prog W .any base t v := hval0
  have hW' := hW
  obtain ⟨p, q, hA0, hV, rfl, hfz, hnd⟩ := hW
  have hA : DataW.TrodAll enc Try.prog W 0 (fun _ => true) true Try.f8.params.toList args.toList ds p := hA0
  rw [Try.params8] at hA hval
  obtain ⟨rfl, rfl⟩ := trodVars_none hV
  obtain ⟨v0, d0, rfl, rfl, h0⟩ := trodAll_one hA
  obtain ⟨cs, fuel, x, rfl, hx⟩ := open_struct Try.underlying33 (hval 0 33 v0 rfl rfl) h0
  obtain ⟨k, now, n, l, v, m, st, po, pr, rd, rp, id, ref, org, rec, xmt, rfl, _⟩ := op_cells hx
  refine (nobodyLaw k now n l v m st po pr rd rp id ref org rec xmt W).mono fun e W' ⟨he, hb⟩ => ?_
  subst he
  revert hb
  simp only [List.append_nil] at hW'
  intro hb
  exact ⟨_, rfl, law_post (tb := 4) laidOut Try.underlying4 rfl (by rw [Try.params8]; intro t ht; revert ht; revert t; exact of_decide_eq_true (by kernel_rfl)) rfl rfl rfl rfl hW' hb⟩
theorem over : Rows.assocNobodyRow.holds Try.pinned (OpenSpec.ofChange Rows.assocNobodySpec) :=
  OpenClaim.holds_of_wide 8 Try.f8 rfl rfl rfl rfl rfl rfl rfl ⟨rfl, rfl, rfl, rfl, rfl⟩ rfl rfl rfl rfl rfl (by kernel_rfl) Try.func8 (by kernel_rfl)
    (of_decide_eq_true (by kernel_rfl)) (by unfold Func.isWrapper; first | (rw [if_pos (by decide +kernel)]; kernel_rfl) | (rw [if_neg (by decide +kernel)]; exact ⟨rfl, rfl⟩))
    (fun os started H enc _ => lifted os started H enc)
theorem proved : Rows.AssocNobodySaid :=
  over
#print axioms proved
end lawNobody
end Go.Proofs.Ytickoncgnjgciaa
