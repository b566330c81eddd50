/- ServerKisses (P30.2, P30.7): for every input the law returns true, and its arguments read afterwards as before. No condition. -/
import Derived.Test.YtjclifjipphnkaaSvH
import Derived.Test.YtjclifjipphnkaaNtpP
import Derived.ChangeMaps
namespace Go.Proofs.Ytjclifjipphnkaa
open Go.ChangeShapes Go.WideShapes Go.ChangeAt Go.RowKit Go.Joins Go.ChangeMaps
set_option linter.unusedSimpArgs false
set_option linter.unusedVariables false
set_option maxRecDepth 100000
theorem ks_back {c : ByteArray} (h : cdE c = 0) : ksB 0 (cdV c) = true ∧ ksS 0 (cdV c) = c := by
  have hi : icB c = true := by
    unfold cdE at h
    cases hc : icB c with
    | true => rfl
    | false => rw [hc] at h; cases h
  have h4 : c.size = 4 := (of_decide_eq_true hi).1
  have hV : cdV c = numB (bl c) := by unfold cdV; rw [hi]; rfl
  have hS : idS (cdV c) = c := by
    unfold idS
    rw [hV, bytes_numB 4 (bl c) (bl_byt c) (by rw [bl_len]; exact h4) (by omega), strOf_bl]
  have hB : ksB 0 (cdV c) = true := by unfold ksB; rw [hS, hi]; rfl
  exact ⟨hB, by unfold ksS; rw [hB]; exact hS⟩
set_option maxHeartbeats 4000000 in
theorem kissesLaw (l v m st po pr rd rp id ref org rec xmt : Int) (c : ByteArray) (w : World) (hc : c.size ≤ 9223372036854775807) :
    Calls Try.prog 5 #[ntp l v m st po pr rd rp id ref org rec xmt, .string c] w fun e w' => e = .returned (.bool true) ∧ Below w.heap.size w w' := by
  obtain ⟨x0, x1, x2, x3, x4, x5, x6, x7, x8, x9, x10, x11, x12, k, hP, hR, h0, h8⟩ := kiss_both l v m st po pr rd rp id ref org rec xmt c hc
  have hK := fun W => kiss_any x0 x1 x2 x3 x4 x5 x6 x7 x8 x9 x10 x11 x12 W h8
  by_cases hk : k = 0
  · obtain ⟨rfl, rfl, rfl, he⟩ := h0 hk
    obtain ⟨e1, e2⟩ := ks_back he
    have hY := fun W => synced_any 3 x1 x2 0 x4 x5 x6 x7 (cdV c) x9 x10 x11 x12 W
    rw [show syncB 3 0 = false by decide] at hY
    simp only [e1, e2] at hK
    subst hk
    clear h0 h8 e1 e2 he
    generalize cdV c = V at hP hR hK hY
    go_enter Try.func5, Try.ntmps5
    go_wp2_with (first
      | (refine wpl_box (by rfl) 25 _ (by rfl) _ ([.int .i64 l, .int .i64 v, .int .i64 m, .int .i64 st, .int .i64 po, .int .i64 pr, .int .u32 rd, .int .u32 rp, .int .u32 id, .int .u64 ref, .int .u64 org, .int .u64 rec, .int .u64 xmt]) (by rfl) rfl ?_; intro w1 P1 s1 b1)
      | (refine wpl_load (by rfl) 25 _ (by rfl) w.heap.size (by rfl) 25 _ P1 _ Try.underlying25 rfl _ sizeNtp (by rfl) ?_))
    with_reducible refine (hP w1).mono ?_
    rintro e w2 ⟨rfl, b2⟩
    have P2 := P1.below b2 s1
    have B2 := b1.trans (b2.mono b1.size)
    have z2 := b2.size
    clear P1 b1 b2
    go_wp2_with (first
      | (refine wpl_alloc (by rfl) 25 (by rfl) (.agg (zN).toArray) (zN) zeroNtp rfl ?_; intro w3 J3 s3 b3)
      | ((refine wpl_store (by rfl) 25 _ _ (by rfl) w2.heap.size (by rfl) _ (by rfl) _ rfl 25 _ J3 (by rfl) _ sizeNtp (by rfl) (by simp [Value.oneCell']) ?_; intro w4 J4 s4 g4); (have P4 := (P2.below b3 (by omega)).but g4 (by omega)))
      | (refine wpl_load (by rfl) 25 _ (by rfl) w.heap.size (by rfl) 25 _ P4 _ Try.underlying25 rfl _ sizeNtp (by rfl) ?_))
    have B4 := (B2.trans (b3.mono (by omega))).trans (g4.below (by omega) (by omega))
    have z4 := J4.lt
    clear P2 B2 b3 g4 J3 P4
    with_reducible refine (hR w4).mono ?_
    rintro e w5 ⟨rfl, b5⟩
    have J5 := J4.below b5 z4
    have B5 := B4.trans (b5.mono B4.size)
    have z5 := b5.size
    clear J4 B4 b5
    go_wp2_with (first
      | (refine wpl_alloc (by rfl) 25 (by rfl) (.agg (zN).toArray) (zN) zeroNtp rfl ?_; intro w6 K6 s6 b6)
      | ((refine wpl_store (by rfl) 25 _ _ (by rfl) w5.heap.size (by rfl) _ (by rfl) _ rfl 25 _ K6 (by rfl) _ sizeNtp (by rfl) (by simp [Value.oneCell']) ?_; intro w7 K7 s7 g7); (have J7 := (J5.below b6 (by omega)).but g7 (by omega)))
      | (refine wpl_load (by rfl) 25 _ (by rfl) w2.heap.size (by rfl) 25 _ J7 _ Try.underlying25 rfl _ sizeNtp (by rfl) ?_) | (refine wpl_load (by rfl) 25 _ (by rfl) w5.heap.size (by rfl) 25 _ K7 _ Try.underlying25 rfl _ sizeNtp (by rfl) ?_))
    have B7 := (B5.trans (b6.mono (by omega))).trans (g7.below (by omega) (by omega))
    clear J5 B5 b6 g7 K6 K7
    with_reducible refine (hK w7).mono ?_
    rintro e w8 ⟨rfl, b8⟩
    have J8 := J7.below b8 (by omega)
    have B8 := B7.trans (b8.mono B7.size)
    have z8 := b8.size
    clear J7 B7 b8
    go_wp2_with (first
      | (refine wpl_load (by rfl) 25 _ (by rfl) w2.heap.size (by rfl) 25 _ J8 _ Try.underlying25 rfl _ sizeNtp (by rfl) ?_)
      | (go_at_call 17; ((with_reducible refine (hY _).mono ?_); rintro e w9 ⟨rfl, b9⟩; (have B9 := B8.trans (b9.mono B8.size)))))
    with_reducible refine (awake_any _).mono ?_
    rintro e wa ⟨rfl, ba⟩
    have Ba := (B9).trans (ba.mono (B9).size)
    go_wp2
    go_ret
    exact ⟨rfl, Ba⟩
  · have hk' : (k != 0) = true := by simpa using hk
    generalize ksS x3 x8 = S at hK
    generalize ksB x3 x8 = T at hK
    clear h0 hk h8
    go_enter Try.func5, Try.ntmps5
    go_wp2_with (first
      | (refine wpl_box (by rfl) 25 _ (by rfl) _ ([.int .i64 l, .int .i64 v, .int .i64 m, .int .i64 st, .int .i64 po, .int .i64 pr, .int .u32 rd, .int .u32 rp, .int .u32 id, .int .u64 ref, .int .u64 org, .int .u64 rec, .int .u64 xmt]) (by rfl) rfl ?_; intro w1 P1 s1 b1)
      | (refine wpl_load (by rfl) 25 _ (by rfl) w.heap.size (by rfl) 25 _ P1 _ Try.underlying25 rfl _ sizeNtp (by rfl) ?_))
    with_reducible refine (hP w1).mono ?_
    rintro e w2 ⟨rfl, b2⟩
    have P2 := P1.below b2 s1
    have B2 := b1.trans (b2.mono b1.size)
    have z2 := b2.size
    clear P1 b1 b2
    go_wp2_with (first
      | (refine wpl_alloc (by rfl) 25 (by rfl) (.agg (zN).toArray) (zN) zeroNtp rfl ?_; intro w3 J3 s3 b3)
      | ((refine wpl_store (by rfl) 25 _ _ (by rfl) w2.heap.size (by rfl) _ (by rfl) _ rfl 25 _ J3 (by rfl) _ sizeNtp (by rfl) (by simp [Value.oneCell']) ?_; intro w4 J4 s4 g4); (have P4 := (P2.below b3 (by omega)).but g4 (by omega)))
      | (refine wpl_load (by rfl) 25 _ (by rfl) w.heap.size (by rfl) 25 _ P4 _ Try.underlying25 rfl _ sizeNtp (by rfl) ?_))
    have B4 := (B2.trans (b3.mono (by omega))).trans (g4.below (by omega) (by omega))
    have z4 := J4.lt
    clear P2 B2 b3 g4 J3 P4
    with_reducible refine (hR w4).mono ?_
    rintro e w5 ⟨rfl, b5⟩
    have J5 := J4.below b5 z4
    have B5 := B4.trans (b5.mono B4.size)
    have z5 := b5.size
    clear J4 B4 b5
    go_wp2_with (first
      | (refine wpl_alloc (by rfl) 25 (by rfl) (.agg (zN).toArray) (zN) zeroNtp rfl ?_; intro w6 K6 s6 b6)
      | ((refine wpl_store (by rfl) 25 _ _ (by rfl) w5.heap.size (by rfl) _ (by rfl) _ rfl 25 _ K6 (by rfl) _ sizeNtp (by rfl) (by simp [Value.oneCell']) ?_; intro w7 K7 s7 g7); (have J7 := (J5.below b6 (by omega)).but g7 (by omega)))
      | (refine wpl_load (by rfl) 25 _ (by rfl) w2.heap.size (by rfl) 25 _ J7 _ Try.underlying25 rfl _ sizeNtp (by rfl) ?_) | (refine wpl_load (by rfl) 25 _ (by rfl) w5.heap.size (by rfl) 25 _ K7 _ Try.underlying25 rfl _ sizeNtp (by rfl) ?_))
    have B7 := (B5.trans (b6.mono (by omega))).trans (g7.below (by omega) (by omega))
    clear J5 B5 b6 g7 K6 K7
    with_reducible refine (hK w7).mono ?_
    rintro e w8 ⟨rfl, b8⟩
    have J8 := J7.below b8 (by omega)
    have B8 := B7.trans (b8.mono B7.size)
    have z8 := b8.size
    clear J7 B7 b8
    go_wp2_with fail
    with_reducible refine (awake_any _).mono ?_
    rintro e wa ⟨rfl, ba⟩
    have Ba := (B8).trans (ba.mono (B8).size)
    go_wp2
    go_ret
    exact ⟨rfl, Ba⟩
theorem trodAll_twos {H : Type} {enc : TypeId × Value → H} {P : Program} {w : World} {base : Nat} {spare : Nat → Bool} {held : Bool} {t0 t1 : TypeId} {vs : List Value} {ds : List (DataW H)} {ps : List MemPlace} (h : DataW.TrodAll enc P w base spare held [t0, t1] vs ds ps) :
    ∃ v0 v1 d0 d1 p0 p1, vs = [v0, v1] ∧ ds = [d0, d1] ∧ DataW.Trod enc P w base spare held t0 v0 d0 p0 ∧ DataW.Trod enc P w base spare held t1 v1 d1 p1 := by
  obtain ⟨v0, vs0, d0, ds0, p0, q0, rfl, rfl, _, h0, r0⟩ := trodAll_cons h
  obtain ⟨v1, vs1, d1, ds1, p1, q1, rfl, rfl, _, h1, r1⟩ := trodAll_cons r0
  obtain ⟨rfl, rfl, _⟩ := trodAll_nil r1
  exact ⟨v0, v1, d0, d1, p0, p1, rfl, rfl, h0, h1⟩
namespace lawKisses
set_option maxRecDepth 100000 in
theorem lifted (os : Os) (started : os.Started) (H : Type) (enc : TypeId × Value → H) :
    ReturnsInHanded {} Try.checked os 5 .any (Rows.serverKissesSpec.pre6 enc Try.prog Try.f5 Rows.serverKissesRow.domain false) (Rows.serverKissesSpec.post enc Try.prog Try.f5 false true false false) := by
  refine returnsInHanded_of_change (C := Try.checked) own started (by kernel_rfl) Try.func5
    (ChangeSpec.witness6 (enc := enc) (C := Try.checked) false ⟨#[], #[ntp 0 0 0 0 0 0 0 0 0 0 0 0 0, .string ⟨#[]⟩], []⟩ 8 (by kernel_rfl) (by kernel_rfl) (by kernel_rfl) (by kernel_rfl)) ?_
  intro W base args ds gs before hval0 hW hcnd _
  have hval : ∀ (j : Nat) t v, Try.f5.params[j]? = some t → args[j]? = some v → Value.okWide Try.prog W .any base t v := hval0
  have hW' := hW
  obtain ⟨p, q, hA0, hV, rfl, hfz, hnd⟩ := hW
  have hA : DataW.TrodAll enc Try.prog W 0 (fun _ => true) true Try.f5.params.toList args.toList ds p := hA0
  rw [Try.params5] at hA hval
  obtain ⟨rfl, rfl⟩ := trodVars_none hV
  obtain ⟨v0, v1, d0, d1, p0, p1, rfl, rfl, rfl, h0, h1⟩ := trodAll_two hA
  obtain ⟨l, v, m, st, po, pr, rd, rp, id, ref, org, rec, xmt, rfl, b0, b1, b2, b3, b4, b5, b6, b7, b8, b9, b10, b11, b12⟩ := open_ntp (hval 0 25 v0 rfl rfl) h0
  obtain ⟨c, rfl, rfl, rfl, wf_c⟩ := open_string Try.underlying9 (hval 1 9 v1 rfl rfl) h1
  refine (kissesLaw l v m st po pr rd rp id ref org rec xmt c W wf_c).mono fun e W' ⟨he, hb⟩ => ?_
  subst he
  revert hb
  simp only [List.append_nil] at hW'
  intro hb
  exact ⟨_, rfl, law_post (tb := 4) laidOut Try.underlying4 rfl (by rw [Try.params5]; intro t ht; revert ht; revert t; exact of_decide_eq_true (by kernel_rfl)) rfl rfl rfl rfl hW' hb⟩
theorem over : Rows.serverKissesRow.holds Try.pinned (OpenSpec.ofChange Rows.serverKissesSpec) :=
  OpenClaim.holds_of_wide 5 Try.f5 rfl rfl rfl rfl rfl rfl rfl ⟨rfl, rfl, rfl, rfl, rfl⟩ rfl rfl rfl rfl rfl (by kernel_rfl) Try.func5 (by kernel_rfl)
    (of_decide_eq_true (by kernel_rfl)) (by unfold Func.isWrapper; first | (rw [if_pos (by decide +kernel)]; kernel_rfl) | (rw [if_neg (by decide +kernel)]; exact ⟨rfl, rfl⟩))
    (fun os started H enc _ => lifted os started H enc)
theorem proved : Rows.ServerKissesSaid :=
  over
#print axioms proved
end lawKisses
end Go.Proofs.Ytjclifjipphnkaa
