/- ExtBack (P20.1, P20.2, P20.4, P20.5): for every input the law returns true, and its arguments read afterwards as before. No condition. -/
import Derived.Test.YtloopnfnbhdlmaaEx7
import Derived.Test.YtloopnfnbhdlmaaExt2
namespace Go.Proofs.Ytloopnfnbhdlmaa
open Go.ChangeShapes Go.WideShapes Go.ChangeAt Go.RowKit Go.Joins
set_option linter.unusedSimpArgs false
set_option linter.unusedVariables false
set_option maxRecDepth 100000
theorem xs_byt {w : World} {hi : Nat} {A : Option Addr} {L : Flds} (h : Xs w hi A L) : ∀ t ∈ L, Byt t.2 := fun t ht => by
  obtain ⟨i, hi, rfl⟩ := List.mem_iff_getElem.1 ht
  obtain ⟨b, o, _, _, hx⟩ := h (by omega)
  obtain ⟨_, _, _, _, hB, _⟩ := hx i hi
  have := hB.byt
  unfold dtL at this
  rwa [List.getD_eq_getElem?_getD, List.getElem?_eq_getElem hi] at this
theorem xs_valid {w : World} {hi : Nat} {A : Option Addr} {L : Flds} (h : Xs w hi A L) (he : apxE L = 0) : AllV L ∧ L.length ≤ 16 := by
  obtain ⟨h1, h2⟩ := apx_parts he
  refine ⟨fun t ht => ⟨?_, xs_byt h t ht⟩, h1⟩
  obtain ⟨i, hi, rfl⟩ := List.mem_iff_getElem.1 ht
  have := h2 i hi
  unfold kdL dtL at this
  rwa [List.getD_eq_getElem?_getD, List.getElem?_eq_getElem hi] at this
set_option maxHeartbeats 8000000 in
theorem back_awk (B : Option Addr) (m d : Nat) (L : Flds) (id tag : Int) (wi : Bool) (w : World) (hm : L.length = m) (hX : Xs w w.heap.size B L) (hmd : m ≤ d) (hd : d ≤ 9223372036854775807) (hf : fewB L = false) :
    Calls Try.prog 6 #[.slice B m d, .int .u32 id, .int .u64 tag, .bool wi] w fun e w' => e = .returned (.bool true) ∧ Below w.heap.size w w' := by
  have hF := few_any B m d L w hm hX hmd hd
  rw [hf] at hF
  clear hf hX hm
  go_enter Try.func6, Try.ntmps6
  go_wp2_with (first | (go_at_call 8; ((with_reducible refine hF.mono ?_); rintro e w1 ⟨rfl, b1⟩)) | (go_at_call 9; ((with_reducible refine (awake_any _).mono ?_); rintro e w9 ⟨rfl, b9⟩)))
  go_ret
  exact ⟨rfl, b1.trans (b9.mono b1.size)⟩
set_option maxHeartbeats 8000000 in
theorem back_err (B : Option Addr) (m d : Nat) (L : Flds) (id tag : Int) (wi : Bool) (w : World) (hm : L.length = m) (hX : Xs w w.heap.size B L) (hmd : m ≤ d) (hd : d ≤ 9223372036854775807) (hf : fewB L = true) (he : apxE L ≠ 0) :
    Calls Try.prog 6 #[.slice B m d, .int .u32 id, .int .u64 tag, .bool wi] w fun e w' => e = .returned (.bool true) ∧ Below w.heap.size w w' := by
  have hF := few_any B m d L w hm hX hmd hd
  rw [hf] at hF
  have HE1 := fun W (hb : Below w.heap.size w W) => xappend_err none 0 0 B m d L W hm ((hX.below hb (Nat.le_refl _)).wide hb.size) hmd hd he
  have h0 : (apxE L != 0) = true := by simpa using he
  clear he hf hX hm
  generalize apxE L = E at HE1 h0
  go_enter Try.func6, Try.ntmps6
  go_wp2_with (first
    | (go_at_call 8; ((with_reducible refine hF.mono ?_); rintro e w1 ⟨rfl, b1⟩))
    | (go_at_call 12; ((with_reducible refine (HE1 _ b1).mono ?_); rintro e w2 ⟨rfl, b2⟩; (have B2 := b1.trans (b2.mono b1.size))))
    | (go_at_call 9; ((with_reducible refine (awake_any _).mono ?_); rintro e w9 ⟨rfl, b9⟩)))
  go_ret
  exact ⟨rfl, B2.trans (b9.mono B2.size)⟩
theorem auth_len (id tag : Int) : (bytesB 4 id ++ bytesB 8 tag).length = 12 := by simp [bytesB_length]
theorem auth_id {id : Int} (tag : Int) (h0 : 0 ≤ id) (h1 : id ≤ 4294967295) : numB ((bytesB 4 id ++ bytesB 8 tag).take 4) = id := by
  rw [List.take_left' (bytesB_length _ _)]
  exact numB_bytesB' 4 id h0 (by have := (show (256 : Int) ^ 4 = 4294967296 from by decide); omega) (by omega)
theorem auth_tag (id : Int) {tag : Int} (h0 : 0 ≤ tag) (h1 : tag ≤ 18446744073709551615) : numB (((bytesB 4 id ++ bytesB 8 tag).drop 4).take 8) = tag := by
  rw [List.drop_left' (bytesB_length _ _), List.take_of_length_le (by simp [bytesB_length])]
  exact numB_bytesB' 8 tag h0 (by have := (show (256 : Int) ^ 8 = 18446744073709551616 from by decide); omega) (by omega)
theorem prs_eq {L : Flds} {a : List Int} (hv : AllV L ∧ L.length ≤ 16) (ha : a = [] ∨ a.length = 12) : prs (fldsB L ++ a).length [] (fldsB L ++ a) = (L, a, 0) := by
  obtain ⟨h1, h2, h3⟩ := prs_of hv.1 hv.2 ha
  exact Prod.ext h1 (Prod.ext h2 h3)
set_option maxHeartbeats 16000000 in
theorem back_with (B : Option Addr) (m d : Nat) (L : Flds) (id tag : Int) (w : World) (hm0 : L.length = m) (hX0 : Xs w w.heap.size B L) (hmd : m ≤ d) (hd : d ≤ 9223372036854775807) (hf : fewB L = true) (he : apxE L = 0) (h0 : 0 ≤ id) (h1 : id ≤ 4294967295) (h2 : 0 ≤ tag) (h3 : tag ≤ 18446744073709551615) :
    Calls Try.prog 6 #[.slice B m d, .int .u32 id, .int .u64 tag, .bool true] w fun e w' => e = .returned (.bool true) ∧ Below w.heap.size w w' := by
  have hF := few_any B m d L w hm0 hX0 hmd hd
  rw [hf] at hF
  have HE1 := fun W (hb : Below w.heap.size w W) => xappend_ok none 0 0 0 0 [] B m d L W rfl Bs.nil (Nat.zero_le _) (fun _ => ⟨rfl, rfl⟩) (by omega) hm0 ((hX0.below hb (Nat.le_refl _)).wide hb.size) hmd hd he
  have hV := Lib.hid (xs_valid hX0 he)
  have hsum : (fldsB L).length ≤ 4160 := by
    have h5 := apx_parts he
    have := sum_le h5.2 h5.1 L.length
    rwa [List.take_of_length_le (Nat.le_refl _)] at this
  have HSum := Lib.hid hsum
  have hX := fun W (hb : Below w.heap.size w W) => (hX0.below hb (Nat.le_refl _)).wide hb.size
  have hm := Lib.hid hm0
  have HAL := Lib.hid (auth_len id tag)
  have HS1 := Lib.hid (auth_id tag h0 h1)
  have HS2 := Lib.hid (auth_tag id h2 h3)
  clear he hf hX0 hm0 hsum
  go_enter Try.func6, Try.ntmps6
  go_wp2_with (first
    | (go_at_call 8; ((with_reducible refine hF.mono ?_); rintro e w1 ⟨rfl, b1⟩))
    | (go_at_call 12; ((with_reducible refine (HE1 _ b1).mono ?_); rintro e w2 ⟨A2, c2, N2, rfl, hN2, O2, b2⟩; (have B2 := b1.trans (b2.mono b1.size)); (have HN2 : Hid ((fldsB L).length = N2) := hN2); clear hN2; (have O2 : Ow w2 w1.heap.size A2 c2 (fldsB L) := O2)))
    | (go_at_call 18; ((with_reducible refine (auth_any id tag _ h0 h1 h2 h3).mono ?_); rintro e w3 ⟨A3, c3, rfl, O3, b3⟩; (have B3 := B2.trans (b3.mono B2.size)); (have O2' := O2.below b3 (Nat.le_refl _)); (have hc3 := O3.cap_le); (rw [HAL.out] at hc3); (have hS := split_12 A3 c3 _ _ _ w3 HAL.out O3.bs hc3 O3.cap_max); rw [HS1.out, HS2.out] at hS))
    | (go_at_call 19; ((with_reducible refine hS.mono ?_); rintro e w' ⟨rfl, rfl⟩))
    | (at_builtin; refine wpList_append_bs rfl (.tmp 64) (.tmp 65) rfl N2 c2 12 c3 (by rfl) (by rfl) HN2.out HAL.out O2' O3.bs (by have := HSum.out; have := HN2.out; omega) (by have := b2.size; have := b3.size; omega) ?_; intro A4 c4 w4 O4 b4 hk; (have B4 := B3.trans (b4.mono b1.size)); (have O3' : Ow w4 w2.heap.size A3 c3 (bytesB 4 id ++ bytesB 8 tag) := ⟨O3.1, own_kept O3.2 fun g hg => hk g (fun g2 he => by have := (O2.blt g2 he).2; have := (O3.2.lt g hg).1; omega) (O3.2.lt g hg).2⟩); clear hk; (have HP := parse_any A4 (N2 + 12) c4 _ w4 (by rw [List.length_append, HN2.out, HAL.out]) (bs_wide0 O4.bs (Nat.le_refl _)) (by have := O4.cap_le; rw [List.length_append, HN2.out, HAL.out] at this; exact this) O4.cap_max (by have := HSum.out; have := HN2.out; omega)); rw [prs_eq hV.out (.inr HAL.out)] at HP)
    | (go_at_call 15; ((with_reducible refine HP.mono ?_); rintro e w5 ⟨A5, c5, A6, c6, N5, N6, wx, rfl, hN5, hN6, X5, b5, b5', O6⟩; (have b5b := b5.trans (b5'.mono b5.size)); (have B5 := B4.trans (b5b.mono B4.size)); (have X5' : XO w5 w4.heap.size A5 c5 L := X5.below b5' (Nat.le_refl _)); (have HN5 : Hid (L.length = N5) := hN5); (obtain rfl : m = N5 := hm.out.symm.trans HN5.out); clear hN5 X5; (have hSm := same_eq B A5 m d c5 L w5 hm.out ((hX _ B5)) X5'.xs hmd hd (HN5.out ▸ X5'.cap.1) X5'.cap.2.1)))
    | (go_at_call 17; ((with_reducible refine hSm.mono ?_); rintro e w6 ⟨rfl, b6⟩; (have B6 := B5.trans (b6.mono B5.size)); (have O6' := O6.below b6 (Nat.le_refl _)); (have O3'' := (O3'.below b5b (Nat.le_refl _)).below b6 (Nat.le_refl _)); (have hQ := bequal_any A6 A3 N6 12 c6 c3 _ _ _ _ (bytesB 4 id ++ bytesB 8 tag) (bytesB 4 id ++ bytesB 8 tag) w6 hN6 HAL.out O6'.bs O3''.bs); rw [eqB_self] at hQ))
    | (go_at_call 14; ((with_reducible refine hQ.mono ?_); rintro e w' ⟨rfl, rfl⟩))
    | (go_at_call 9; ((with_reducible refine (awake_any _).mono ?_); rintro e w9 ⟨rfl, b9⟩)))
  go_ret
  exact ⟨rfl, B6.trans (b9.mono B6.size)⟩
set_option maxHeartbeats 16000000 in
theorem back_not (B : Option Addr) (m d : Nat) (L : Flds) (id tag : Int) (w : World) (hm0 : L.length = m) (hX0 : Xs w w.heap.size B L) (hmd : m ≤ d) (hd : d ≤ 9223372036854775807) (hf : fewB L = true) (he : apxE L = 0) (h0 : 0 ≤ id) (h1 : id ≤ 4294967295) (h2 : 0 ≤ tag) (h3 : tag ≤ 18446744073709551615) :
    Calls Try.prog 6 #[.slice B m d, .int .u32 id, .int .u64 tag, .bool false] w fun e w' => e = .returned (.bool true) ∧ Below w.heap.size w w' := by
  have hF := few_any B m d L w hm0 hX0 hmd hd
  rw [hf] at hF
  have HE1 := fun W (hb : Below w.heap.size w W) => xappend_ok none 0 0 0 0 [] B m d L W rfl Bs.nil (Nat.zero_le _) (fun _ => ⟨rfl, rfl⟩) (by omega) hm0 ((hX0.below hb (Nat.le_refl _)).wide hb.size) hmd hd he
  have hV := Lib.hid (xs_valid hX0 he)
  have hsum : (fldsB L).length ≤ 4160 := by
    have h5 := apx_parts he
    have := sum_le h5.2 h5.1 L.length
    rwa [List.take_of_length_le (Nat.le_refl _)] at this
  have HSum := Lib.hid hsum
  have hX := fun W (hb : Below w.heap.size w W) => (hX0.below hb (Nat.le_refl _)).wide hb.size
  have hm := Lib.hid hm0
  have HAL := Lib.hid (auth_len id tag)
  have HS1 := Lib.hid (auth_id tag h0 h1)
  have HS2 := Lib.hid (auth_tag id h2 h3)
  clear he hf hX0 hm0 hsum
  go_enter Try.func6, Try.ntmps6
  go_wp2_with (first
    | (go_at_call 8; ((with_reducible refine hF.mono ?_); rintro e w1 ⟨rfl, b1⟩))
    | (go_at_call 12; ((with_reducible refine (HE1 _ b1).mono ?_); rintro e w2 ⟨A2, c2, N2, rfl, hN2, O2, b2⟩; (have B2 := b1.trans (b2.mono b1.size)); (have HN2 : Hid ((fldsB L).length = N2) := hN2); clear hN2; (have O2 : Ow w2 w1.heap.size A2 c2 (fldsB L) := O2)))
    | (go_at_call 18; ((with_reducible refine (auth_any id tag _ h0 h1 h2 h3).mono ?_); rintro e w3 ⟨A3, c3, rfl, O3, b3⟩; (have B3 := B2.trans (b3.mono B2.size)); (have O2' := O2.below b3 (Nat.le_refl _)); (have hc3 := O3.cap_le); (rw [HAL.out] at hc3); (have hS := split_12 A3 c3 _ _ _ w3 HAL.out O3.bs hc3 O3.cap_max); rw [HS1.out, HS2.out] at hS))
    | (go_at_call 19; ((with_reducible refine hS.mono ?_); rintro e w' ⟨rfl, rfl⟩))
    | (at_builtin; refine wpList_append_bs rfl (.tmp 64) (.tmp 65) rfl N2 c2 0 0 (by rfl) (by rfl) HN2.out rfl O2' (Bs.nil (lo := 0) (hi := 0)) (by have := HSum.out; have := HN2.out; omega) (by have := b2.size; have := b3.size; omega) ?_; intro A4 c4 w4 O4 b4 hk; (have B4 := B3.trans (b4.mono b1.size)); clear hk; (have HP := parse_any A4 (N2 + 0) c4 _ w4 (by rw [List.length_append, HN2.out]; rfl) (bs_wide0 O4.bs (Nat.le_refl _)) (by have := O4.cap_le; rw [List.length_append, HN2.out] at this; exact this) O4.cap_max (by have := HSum.out; have := HN2.out; omega)); rw [prs_eq hV.out (.inl rfl)] at HP; rw [Nat.add_zero] at HP)
    | (go_at_call 15; ((with_reducible refine HP.mono ?_); rintro e w5 ⟨A5, c5, A6, c6, N5, N6, wx, rfl, hN5, hN6, X5, b5, b5', O6⟩; (have b5b := b5.trans (b5'.mono b5.size)); (have B5 := B4.trans (b5b.mono B4.size)); (have X5' : XO w5 w4.heap.size A5 c5 L := X5.below b5' (Nat.le_refl _)); (have HN5 : Hid (L.length = N5) := hN5); (obtain rfl : m = N5 := hm.out.symm.trans HN5.out); clear hN5 X5; (have hSm := same_eq B A5 m d c5 L w5 hm.out ((hX _ B5)) X5'.xs hmd hd (HN5.out ▸ X5'.cap.1) X5'.cap.2.1)))
    | (go_at_call 17; ((with_reducible refine hSm.mono ?_); rintro e w6 ⟨rfl, b6⟩; (have B6 := B5.trans (b6.mono B5.size)); (have O6' := O6.below b6 (Nat.le_refl _)); (have hQ := bequal_any A6 none N6 0 c6 0 _ _ 0 0 [] [] w6 hN6 rfl O6'.bs Bs.nil); rw [eqB_self] at hQ))
    | (go_at_call 14; ((with_reducible refine hQ.mono ?_); rintro e w' ⟨rfl, rfl⟩))
    | (go_at_call 9; ((with_reducible refine (awake_any _).mono ?_); rintro e w9 ⟨rfl, b9⟩)))
  go_ret
  exact ⟨rfl, B6.trans (b9.mono B6.size)⟩
theorem backLaw (B : Option Addr) (m d : Nat) (L : Flds) (id tag : Int) (wi : Bool) (w : World) (hm : L.length = m) (hX : Xs w w.heap.size B L) (hmd : m ≤ d) (hd : d ≤ 9223372036854775807) (h0 : 0 ≤ id) (h1 : id ≤ 4294967295) (h2 : 0 ≤ tag) (h3 : tag ≤ 18446744073709551615) :
    Calls Try.prog 6 #[.slice B m d, .int .u32 id, .int .u64 tag, .bool wi] w fun e w' => e = .returned (.bool true) ∧ Below w.heap.size w w' := by
  rcases hf : fewB L with _ | _
  · exact back_awk B m d L id tag wi w hm hX hmd hd hf
  · by_cases he : apxE L = 0
    · cases wi
      · exact back_not B m d L id tag w hm hX hmd hd hf he h0 h1 h2 h3
      · exact back_with B m d L id tag w hm hX hmd hd hf he h0 h1 h2 h3
    · exact back_err B m d L id tag wi w hm hX hmd hd hf he
namespace lawBack
set_option maxRecDepth 100000 in
theorem lifted (os : Os) (started : os.Started) (H : Type) (enc : TypeId × Value → H) :
    ReturnsInHanded {} Try.checked os 6 .any (Rows.extBackSpec.pre6 enc Try.prog Try.f6 Rows.extBackRow.domain false) (Rows.extBackSpec.post enc Try.prog Try.f6 false true false false) := by
  refine returnsInHanded_of_change_sized (C := Try.checked) own started (by kernel_rfl) Try.func6
    (ChangeSpec.witness6 (enc := enc) (C := Try.checked) false ⟨#[], #[.slice none 0 0, .int .u32 0, .int .u64 0, .bool false], []⟩ 8 (by kernel_rfl) (by kernel_rfl) (by kernel_rfl) (by kernel_rfl)) ?_
  intro W base args ds gs before hval0 hW hcnd hsz0 _
  have hval : ∀ (j : Nat) t v, Try.f6.params[j]? = some t → args[j]? = some v → Value.okWide Try.prog W .any base t v := hval0
  have hW' := hW
  obtain ⟨p, q, hA0, hV, rfl, hfz, hnd⟩ := hW
  have hA : DataW.TrodAll enc Try.prog W 0 (fun _ => true) true Try.f6.params.toList args.toList ds p := hA0
  have hsz : (DataW.weightsEach Try.prog (Try.f6.params.toList ++ Rows.extBackSpec.plain.varTypes Try.prog) (ds ++ gs)).all (· ≤ reachBytes) = true := hsz0
  rw [Try.params6] at hA hval hsz
  obtain ⟨rfl, rfl⟩ := trodVars_none hV
  obtain ⟨v0, v1, v2, v3, d0, d1, d2, d3, p0, p1, p2, p3, rfl, rfl, rfl, h0, h1, h2, h3⟩ := trodAll_four hA
  obtain ⟨B, m, d, L, rfl, hm, hX, hmd, hd, _, _⟩ := open_exts (hval 0 23 v0 rfl rfl) h0
  obtain ⟨id, rfl, rfl, rfl, wf_id⟩ := open_int Try.underlying38 (hval 1 38 v1 rfl rfl) h1
  obtain ⟨tag, rfl, rfl, rfl, wf_tag⟩ := open_int Try.underlying39 (hval 2 39 v2 rfl rfl) h2
  obtain ⟨wi, rfl, rfl, rfl⟩ := open_bool Try.underlying4 (hval 3 4 v3 rfl rfl) h3
  refine (backLaw B m d L id tag wi W hm hX hmd hd (bounds_u32 wf_id).1 (bounds_u32 wf_id).2 (bounds_u64 wf_tag).1 (bounds_u64 wf_tag).2).mono fun e W' ⟨he, hb⟩ => ?_
  subst he
  revert hb
  simp only [List.append_nil] at hW'
  intro hb
  exact ⟨_, rfl, law_post (tb := 4) laidOut Try.underlying4 rfl (by rw [Try.params6]; intro t ht; revert ht; revert t; exact of_decide_eq_true (by kernel_rfl)) rfl rfl rfl rfl hW' hb⟩
theorem over : Rows.extBackRow.holds Try.pinned (OpenSpec.ofChange Rows.extBackSpec) :=
  OpenClaim.holds_of_wide 6 Try.f6 rfl rfl rfl rfl rfl rfl rfl ⟨rfl, rfl, rfl, rfl, rfl⟩ rfl rfl rfl rfl rfl (by kernel_rfl) Try.func6 (by kernel_rfl)
    (of_decide_eq_true (by kernel_rfl)) (by unfold Func.isWrapper; first | (rw [if_pos (by decide +kernel)]; kernel_rfl) | (rw [if_neg (by decide +kernel)]; exact ⟨rfl, rfl⟩))
    (fun os started H enc _ => lifted os started H enc)
theorem proved : Rows.ExtBackSaid :=
  over
#print axioms proved
end lawBack
end Go.Proofs.Ytloopnfnbhdlmaa
