/- NtpmsgFields (P19.2): for every input the law returns true, and its arguments read afterwards as before. No condition. -/
import Derived.Test.YthhdbpdgppppiaaNtp8
import Derived.Test.YthhdbpdgppppiaaNtpP
import Derived.Test.YthhdbpdgppppiaaFields
import Derived.Test.YthhdbpdgppppiaaOpen
namespace Go.Proofs.Ythhdbpdgppppiaa
open Go.ChangeShapes Go.WideShapes Go.ChangeAt Go.RowKit Go.Joins
set_option linter.unusedSimpArgs false
set_option linter.unusedVariables false
set_option maxRecDepth 100000 in
set_option maxHeartbeats 4000000 in
theorem fields_bad (l v m st po pr rd rp id ref org rec xmt : Int) (w : World) (hk : nchk l v m st po pr = 3) :
    Calls Try.prog 7 #[ntp l v m st po pr rd rp id ref org rec xmt] w fun e w' => e = .returned (.bool true) ∧ Below w.heap.size w w' := by
  go_enter Try.func7, Try.ntmps7
  go_wp2_with (first | (refine wpl_box (by rfl) 25 _ (by rfl) _ [.int .i64 l, .int .i64 v, .int .i64 m, .int .i64 st, .int .i64 po, .int .i64 pr, .int .u32 rd, .int .u32 rp, .int .u32 id, .int .u64 ref, .int .u64 org, .int .u64 rec, .int .u64 xmt] (by rfl) rfl ?_; intro w1 H1 s1 b1) | (refine wpl_load (by rfl) 25 _ (by rfl) w.heap.size (by rfl) 25 _ H1 _ Try.underlying25 rfl _ sizeNtp (by rfl) ?_))
  have hE := encode_err l v m st po pr rd rp id ref org rec xmt w1 hk
  with_reducible refine hE.mono ?_
  rintro e w2 ⟨rfl, b2⟩
  have B2 := b1.trans (b2.mono b1.size)
  clear b2 b1 hE H1
  go_wp2_with fail
  with_reducible refine (awake_any _).mono ?_
  rintro e wa ⟨rfl, ba⟩
  have Ba := (B2).trans (ba.mono (B2).size)
  go_wp2
  go_ret
  exact ⟨rfl, Ba⟩
theorem skip_at (lo g : Nat) (l : List Int) (s : Nat) (si : Int) (w : World) (hR : Rd w lo g l 0) (hl : s ≤ l.length) (hsi : ((s : Nat) : Int) = si) :
    Calls Try.prog 17 #[rp g, .int .i64 si] w (RPost (.tuple #[]) lo g (l.drop s) 0 w) := by
  subst hsi
  have hE := skip_any lo g l 0 s w hR
  have hz : nnB (s : Int) = true := decide_eq_true (by omega)
  have hk : tkOk l 0 s (nnB s) = true := by rw [hz]; simp [tkOk]; omega
  have e3 : tkE l 0 s (nnB s) = 0 := by rw [hz]; simp [tkE]; omega
  rw [(tk_yes hk).2, e3] at hE
  exact hE
set_option maxRecDepth 100000 in
set_option maxHeartbeats 8000000 in
theorem fields_ok (l v m st po pr rd rp id ref org rec xmt : Int) (w : World) (hk : nchk l v m st po pr = 0) (h6 : 0 ≤ rd ∧ rd ≤ 4294967295) (h7 : 0 ≤ rp ∧ rp ≤ 4294967295) (h8 : 0 ≤ id ∧ id ≤ 4294967295) (h9 : 0 ≤ ref ∧ ref ≤ 18446744073709551615) (h10 : 0 ≤ org ∧ org ≤ 18446744073709551615) (h11 : 0 ≤ rec ∧ rec ≤ 18446744073709551615) (h12 : 0 ≤ xmt ∧ xmt ≤ 18446744073709551615) :
    Calls Try.prog 7 #[ntp l v m st po pr rd rp id ref org rec xmt] w fun e w' => e = .returned (.bool true) ∧ Below w.heap.size w w' := by
  obtain ⟨L, hL, f0, f1, f2, f3, f4, f5, f6, f7, f8, f9, f10, fd⟩ := encH_back l v m st po pr rd rp id ref org rec xmt [] hk h6 h7 h8 h9 h10 h11 h12
  obtain ⟨kl, kv, km, kst, kpo, kpr⟩ := nchk_ok hk
  rw [List.append_nil] at hL
  have hl48 := encH_len l v m st po pr rd rp id ref org rec xmt
  rw [← hL] at hl48
  have F1 := Lib.hid f1
  have F2 := Lib.hid f2
  have F3 := Lib.hid f3
  have F4 := Lib.hid f4
  have F5 := Lib.hid f5
  have F6 := Lib.hid f6
  have F7 := Lib.hid f7
  have F8 := Lib.hid f8
  have F9 := Lib.hid f9
  have F10 := Lib.hid f10
  have FD := Lib.hid fd
  clear f0 f1 f2 f3 f4 f5 f6 f7 f8 f9 f10 fd
  have hw2 : IntKind.u64.wrap st = st := by rw [IntKind.wrap_u64]; omega
  have hw5 : IntKind.u64.wrap rd = rd := by rw [IntKind.wrap_u64]; omega
  have hw6 : IntKind.u64.wrap rp = rp := by rw [IntKind.wrap_u64]; omega
  have hw7 : IntKind.u64.wrap id = id := by rw [IntKind.wrap_u64]; omega
  have hK := Lib.hid hk
  clear hk
  go_enter Try.func7, Try.ntmps7
  go_wp2_with (first | (refine wpl_box (by rfl) 25 _ (by rfl) _ [.int .i64 l, .int .i64 v, .int .i64 m, .int .i64 st, .int .i64 po, .int .i64 pr, .int .u32 rd, .int .u32 rp, .int .u32 id, .int .u64 ref, .int .u64 org, .int .u64 rec, .int .u64 xmt] (by rfl) rfl ?_; intro w1 H1 s1 b1) | (refine wpl_load (by rfl) 25 _ (by rfl) w.heap.size (by rfl) 25 _ H1 _ Try.underlying25 rfl _ sizeNtp (by rfl) ?_))
  have hE := encode_ok l v m st po pr rd rp id ref org rec xmt w1 hK.out h6 h7 h8 h9 h10 h11 h12
  rw [← hL] at hE
  with_reducible refine hE.mono ?_
  rintro e w2 ⟨A2, c2, rfl, hB2, hc48, hcm, b2⟩
  have H2 := H1.below b2 H1.lt
  have B2 := b1.trans (b2.mono b1.size)
  have z2 := H2.lt
  clear b2 b1 hE H1
  have hE := newReader_any A2 48 c2 _ _ L w2 hl48 hB2 (Nat.le_refl _) (by omega)
  go_wp2_with fail
  with_reducible refine hE.mono ?_
  rintro e w3 ⟨g, rfl, R3, hgz, b3⟩
  have H3 := H2.below b3 z2
  have B3 := B2.trans (b3.mono B2.size)
  have hlo : w2.heap.size ≤ g := by obtain ⟨_, _, _, _, _, _, _, _, h, _⟩ := R3; omega
  clear b3 hE H2 B2 hB2 hgz
  have hE := skip_at _ g L 1 1 w3 R3 (by omega) rfl
  rw [show L.drop 1 = L.drop 1 from rfl] at hE
  go_wp2_with fail
  with_reducible refine hE.mono ?_
  rintro e w4 ⟨rfl, R4, hg, hs⟩
  have H4 := (H3).but hg (by omega)
  have B4 := (B3).trans (hg.below (B3).size (by omega))
  clear hE R3 H3 B3 hg hs
  have hE := uint_at _ g L 1 1 2 1 w4 R4 (by omega) (by omega) (by omega) rfl rfl
  rw [F1.out] at hE
  go_wp2_with fail
  with_reducible refine hE.mono ?_
  rintro e w5 ⟨rfl, R5, hg, hs⟩
  have H5 := (H4).but hg (by omega)
  have B5 := (B4).trans (hg.below (B4).size (by omega))
  clear hE R4 H4 B4 hg hs
  have hE := int_at _ g L 2 1 3 1 w5 R5 (by omega) (by omega) (by omega) rfl rfl
  rw [F2.out] at hE
  go_wp2_with fail
  with_reducible refine hE.mono ?_
  rintro e w6 ⟨rfl, R6, hg, hs⟩
  have H6 := (H5).but hg (by omega)
  have B6 := (B5).trans (hg.below (B5).size (by omega))
  clear hE R5 H5 B5 hg hs
  have hE := int_at _ g L 3 1 4 1 w6 R6 (by omega) (by omega) (by omega) rfl rfl
  rw [F3.out] at hE
  go_wp2_with fail
  with_reducible refine hE.mono ?_
  rintro e w7 ⟨rfl, R7, hg, hs⟩
  have H7 := (H6).but hg (by omega)
  have B7 := (B6).trans (hg.below (B6).size (by omega))
  clear hE R6 H6 B6 hg hs
  have hE := uint_at _ g L 4 4 8 4 w7 R7 (by omega) (by omega) (by omega) rfl rfl
  rw [F4.out] at hE
  go_wp2_with fail
  with_reducible refine hE.mono ?_
  rintro e w8 ⟨rfl, R8, hg, hs⟩
  have H8 := (H7).but hg (by omega)
  have B8 := (B7).trans (hg.below (B7).size (by omega))
  clear hE R7 H7 B7 hg hs
  have hE := uint_at _ g L 8 4 12 4 w8 R8 (by omega) (by omega) (by omega) rfl rfl
  rw [F5.out] at hE
  go_wp2_with fail
  with_reducible refine hE.mono ?_
  rintro e w9 ⟨rfl, R9, hg, hs⟩
  have H9 := (H8).but hg (by omega)
  have B9 := (B8).trans (hg.below (B8).size (by omega))
  clear hE R8 H8 B8 hg hs
  have hE := uint_at _ g L 12 4 16 4 w9 R9 (by omega) (by omega) (by omega) rfl rfl
  rw [F6.out] at hE
  go_wp2_with fail
  with_reducible refine hE.mono ?_
  rintro e w10 ⟨rfl, R10, hg, hs⟩
  have H10 := (H9).but hg (by omega)
  have B10 := (B9).trans (hg.below (B9).size (by omega))
  clear hE R9 H9 B9 hg hs
  have hE := uint_at _ g L 16 8 24 8 w10 R10 (by omega) (by omega) (by omega) rfl rfl
  rw [F7.out] at hE
  go_wp2_with (first | (refine wpl_loadf (by rfl) 3 _ (by rfl) w.heap.size 3 (by rfl) _ _ H10 _ rfl _ Try.underlying3 rfl ?_) | (refine wpl_loadf (by rfl) 3 _ (by rfl) w.heap.size 4 (by rfl) _ _ H10 _ rfl _ Try.underlying3 rfl ?_) | (refine wpl_loadf (by rfl) 3 _ (by rfl) w.heap.size 5 (by rfl) _ _ H10 _ rfl _ Try.underlying3 rfl ?_) | (refine wpl_loadf (by rfl) 22 _ (by rfl) w.heap.size 6 (by rfl) _ _ H10 _ rfl _ Try.underlying22 rfl ?_) | (refine wpl_loadf (by rfl) 22 _ (by rfl) w.heap.size 7 (by rfl) _ _ H10 _ rfl _ Try.underlying22 rfl ?_) | (refine wpl_loadf (by rfl) 22 _ (by rfl) w.heap.size 8 (by rfl) _ _ H10 _ rfl _ Try.underlying22 rfl ?_))
  with_reducible refine hE.mono ?_
  rintro e w11 ⟨rfl, R11, hg, hs⟩
  have H11 := (H10).but hg (by omega)
  have B11 := (B10).trans (hg.below (B10).size (by omega))
  clear hE R10 H10 B10 hg hs
  have hE := uint_at _ g L 24 8 32 8 w11 R11 (by omega) (by omega) (by omega) rfl rfl
  rw [F8.out] at hE
  go_wp2_with fail
  with_reducible refine hE.mono ?_
  rintro e w12 ⟨rfl, R12, hg, hs⟩
  have H12 := (H11).but hg (by omega)
  have B12 := (B11).trans (hg.below (B11).size (by omega))
  clear hE R11 H11 B11 hg hs
  have hE := uint_at _ g L 32 8 40 8 w12 R12 (by omega) (by omega) (by omega) rfl rfl
  rw [F9.out] at hE
  go_wp2_with fail
  with_reducible refine hE.mono ?_
  rintro e w13 ⟨rfl, R13, hg, hs⟩
  have H13 := (H12).but hg (by omega)
  have B13 := (B12).trans (hg.below (B12).size (by omega))
  clear hE R12 H12 B12 hg hs
  have hE := uint_at _ g L 40 8 48 8 w13 R13 (by omega) (by omega) (by omega) rfl rfl
  rw [F10.out] at hE
  go_wp2_with fail
  with_reducible refine hE.mono ?_
  rintro e w14 ⟨rfl, R14, hg, hs⟩
  have H14 := (H13).but hg (by omega)
  have B14 := (B13).trans (hg.below (B13).size (by omega))
  clear hE R13 H13 B13 hg hs
  rw [FD.out] at R14
  have hE1 := left_any _ g [] _ w14 R14
  have hE2 := err_any _ g [] _ w14 R14
  rw [show (([] : List Int).length : Int) = 0 from rfl] at hE1
  go_wp2_with (first | (refine wpl_loadf (by rfl) 23 _ (by rfl) w.heap.size 9 (by rfl) _ _ H14 _ rfl _ Try.underlying23 rfl ?_) | (refine wpl_loadf (by rfl) 23 _ (by rfl) w.heap.size 10 (by rfl) _ _ H14 _ rfl _ Try.underlying23 rfl ?_) | (refine wpl_loadf (by rfl) 23 _ (by rfl) w.heap.size 11 (by rfl) _ _ H14 _ rfl _ Try.underlying23 rfl ?_) | (refine wpl_loadf (by rfl) 23 _ (by rfl) w.heap.size 12 (by rfl) _ _ H14 _ rfl _ Try.underlying23 rfl ?_) | (go_at_call 20; ((with_reducible refine (hE1).mono ?_); rintro e w1 ⟨rfl, rfl⟩)) | (go_at_call 21; ((with_reducible refine (hE2).mono ?_); rintro e w1 ⟨rfl, rfl⟩)))
  with_reducible refine (awake_any _).mono ?_
  rintro e wa ⟨rfl, ba⟩
  have Ba := (B14).trans (ba.mono (B14).size)
  go_wp2
  go_ret
  exact ⟨rfl, Ba⟩
theorem fieldsLaw (l v m st po pr rd rp id ref org rec xmt : Int) (w : World) (h6 : 0 ≤ rd ∧ rd ≤ 4294967295) (h7 : 0 ≤ rp ∧ rp ≤ 4294967295) (h8 : 0 ≤ id ∧ id ≤ 4294967295) (h9 : 0 ≤ ref ∧ ref ≤ 18446744073709551615) (h10 : 0 ≤ org ∧ org ≤ 18446744073709551615) (h11 : 0 ≤ rec ∧ rec ≤ 18446744073709551615) (h12 : 0 ≤ xmt ∧ xmt ≤ 18446744073709551615) :
    Calls Try.prog 7 #[ntp l v m st po pr rd rp id ref org rec xmt] w fun e w' => e = .returned (.bool true) ∧ Below w.heap.size w w' := by
  by_cases hk : nchk l v m st po pr = 0
  · exact fields_ok l v m st po pr rd rp id ref org rec xmt w hk h6 h7 h8 h9 h10 h11 h12
  · exact fields_bad l v m st po pr rd rp id ref org rec xmt w (nchk_3 hk)
namespace lawFields
set_option maxRecDepth 100000 in
theorem lifted (os : Os) (started : os.Started) (H : Type) (enc : TypeId × Value → H) :
    ReturnsInHanded {} Try.checked os 7 .any (Rows.ntpmsgFieldsSpec.pre6 enc Try.prog Try.f7 Rows.ntpmsgFieldsRow.domain false) (Rows.ntpmsgFieldsSpec.post enc Try.prog Try.f7 false true false false) := by
  refine returnsInHanded_of_change (C := Try.checked) own started (by kernel_rfl) Try.func7
    (ChangeSpec.witness6 (enc := enc) (C := Try.checked) false ⟨#[], #[ntp 0 0 0 0 0 0 0 0 0 0 0 0 0], []⟩ 8 (by kernel_rfl) (by kernel_rfl) (by kernel_rfl) (by kernel_rfl)) ?_
  intro W base args ds gs before hval0 hW hcnd _
  have hval : ∀ (j : Nat) t v, Try.f7.params[j]? = some t → args[j]? = some v → Value.okWide Try.prog W .any base t v := hval0
  have hW' := hW
  obtain ⟨p, q, hA0, hV, rfl, hfz, hnd⟩ := hW
  have hA : DataW.TrodAll enc Try.prog W 0 (fun _ => true) true Try.f7.params.toList args.toList ds p := hA0
  rw [Try.params7] at hA hval
  obtain ⟨rfl, rfl⟩ := trodVars_none hV
  obtain ⟨v0, d0, rfl, rfl, h0⟩ := trodAll_one hA
  obtain ⟨l, v, m, st, po, pr, rd, rp, id, ref, org, rec, xmt, rfl, b0, b1, b2, b3, b4, b5, b6, b7, b8, b9, b10, b11, b12⟩ := open_ntp (hval 0 25 v0 rfl rfl) h0
  refine (fieldsLaw l v m st po pr rd rp id ref org rec xmt W b6 b7 b8 b9 b10 b11 b12).mono fun e W' ⟨he, hb⟩ => ?_
  subst he
  revert hb
  simp only [List.append_nil] at hW'
  intro hb
  exact ⟨_, rfl, law_post (tb := 4) laidOut Try.underlying4 rfl (by rw [Try.params7]; intro t ht; revert ht; revert t; exact of_decide_eq_true (by kernel_rfl)) rfl rfl rfl rfl hW' hb⟩
theorem over : Rows.ntpmsgFieldsRow.holds Try.pinned (OpenSpec.ofChange Rows.ntpmsgFieldsSpec) :=
  OpenClaim.holds_of_wide 7 Try.f7 rfl rfl rfl rfl rfl rfl rfl ⟨rfl, rfl, rfl, rfl, rfl⟩ rfl rfl rfl rfl rfl (by kernel_rfl) Try.func7 (by kernel_rfl)
    (of_decide_eq_true (by kernel_rfl)) (by unfold Func.isWrapper; first | (rw [if_pos (by decide +kernel)]; kernel_rfl) | (rw [if_neg (by decide +kernel)]; exact ⟨rfl, rfl⟩))
    (fun os started H enc _ => lifted os started H enc)
theorem proved : Rows.NtpmsgFieldsSaid :=
  over
#print axioms proved
end lawFields
end Go.Proofs.Ythhdbpdgppppiaa
