/- WireApart (P2.3, P2.7): for every input the law returns true, and its arguments read afterwards as before. No condition. -/
import Derived.Test.YtaioikmgimffjaaWireAwake
import Derived.Test.YtaioikmgimffjaaOpen
namespace Go.Proofs.Ytaioikmgimffjaa
open Go.ChangeShapes Go.WideShapes Go.ChangeAt Go.RowKit Go.Joins
set_option linter.unusedSimpArgs false
set_option linter.unusedVariables false
theorem u8_xor255 (x : Int) (h0 : 0 ≤ x) (h1 : x ≤ 255) : 0 ≤ bits .xor .u8 x 255 ∧ bits .xor .u8 x 255 ≤ 255 := by
  rw [Go.u8_xor x 255 h0 (by omega) (by omega) (by omega)]
  have h : x.toNat ^^^ (255 : Int).toNat < 2 ^ 8 := Nat.xor_lt_two_pow (by omega) (by decide)
  omega
theorem apartLaw_long (A : Option Addr) (c : Nat) (l : List Int) (n : Int) (w : World) (hl : 5000 < l.length) (hl2 : l.length ≤ 140737488351232) :
    Calls Try.prog 10 #[.slice A l.length c, .int .i64 n] w fun e w' => e = .returned (.bool true) ∧ Below w.heap.size w w' := by
  have hl' : (5000 : Int) < l.length := by omega
  have B0 : Below w.heap.size w w := Below.refl _ _
  go_enter Try.func10, Try.ntmps10
  go_wp2_with fail
  refine (awake_any _).mono ?_
  rintro e w1 ⟨rfl, hb⟩
  have B1 := (B0).trans (hb.mono (B0).size)
  clear hb
  go_wp2
  go_ret
  exact ⟨rfl, B1⟩
theorem tk_n (l : List Int) (m : Nat) (h : m ≤ l.length) : tkL l 0 m (nnB m) = l.take m ∧ tkR l 0 m (nnB m) = l.drop m ∧ tkE l 0 m (nnB m) = 0 := by
  have hz : nnB (m : Int) = true := decide_eq_true (by omega)
  have hk : tkOk l 0 m (nnB m) = true := by rw [hz]; simp [tkOk]; omega
  refine ⟨(tk_yes hk).1, (tk_yes hk).2, ?_⟩
  rw [hz]; simp [tkE]; omega
abbrev rowOf (A : Option Addr) : Option Nat := A.map (fun a => a.block)
theorem keepS' {w w1 : World} (h : w = w1) : True := trivial
set_option maxHeartbeats 400000 in
theorem apartLaw_short (A : Option Addr) (c : Nat) (l : List Int) (n : Int) (w : World) (h : Bs w 0 w.heap.size A l) (hlc : l.length ≤ c) (hnil : A = none → l.length = 0 ∧ c = 0) (hc63 : c ≤ 140737488351232) (hl : l.length ≤ 5000) (hn : -9223372036854775808 ≤ n ∧ n ≤ 9223372036854775807) :
    Calls Try.prog 10 #[.slice A l.length c, .int .i64 n] w fun e w' => e = .returned (.bool true) ∧ Below w.heap.size w w' := by
  have hl' : (l.length : Int) ≤ 5000 := by omega
  obtain ⟨m, hm⟩ : ∃ m : Nat, wrap64 ((IntKind.u64.wrap n).tmod (IntKind.u64.wrap ((l.length : Int) + 1))) = m ∧ m ≤ l.length := by
    have e1 : IntKind.u64.wrap ((l.length : Int) + 1) = l.length + 1 := by rw [IntKind.wrap_u64]; omega
    have e2 : 0 ≤ IntKind.u64.wrap n := by rw [IntKind.wrap_u64]; omega
    rw [e1, Int.tmod_eq_emod_of_nonneg e2]
    have e3 := Int.emod_nonneg (IntKind.u64.wrap n) (show (l.length : Int) + 1 ≠ 0 by omega)
    have e4 := Int.emod_lt_of_pos (IntKind.u64.wrap n) (show (0 : Int) < (l.length : Int) + 1 by omega)
    refine ⟨((IntKind.u64.wrap n) % ((l.length : Int) + 1)).toNat, ?_, by omega⟩
    unfold wrap64; omega
  have e1 : IntKind.u64.wrap ((l.length : Int) + 1) = l.length + 1 := by rw [IntKind.wrap_u64]; omega
  have hm1 := hm.1
  have hm2 := hm.2
  rw [e1] at hm1
  clear hm
  have hne : ((l.length : Int) + 1 == 0) = false := by simp; omega
  go_enter Try.func10, Try.ntmps10
  go_wp2_with fail
  have hE := clone_any A l.length c 0 w.heap.size l w rfl h (Nat.le_refl _) (by omega) hnil
  refine hE.mono ?_
  rintro e w1 ⟨A1, c1, rfl, hO1, s1, hb1⟩
  clear hE
  have hbl1 := hO1.blt
  have hE := newReader_any A1 l.length c1 w.heap.size w1.heap.size l w1 rfl hO1.bs (Nat.le_refl _) (by omega)
  go_wp2_with fail
  refine hE.mono ?_
  rintro e w2 ⟨g, rfl, hR2, hgz, hb2⟩
  clear hE
  have hO2 := hO1.below hb2 (Nat.le_refl _)
  have B2 := hb1.trans (hb2.mono s1)
  have hlo : w1.heap.size ≤ g := by obtain ⟨_, _, _, _, _, _, _, _, h, _⟩ := hR2; omega
  have hg2 := hR2.lt
  have hc1 := hO1.cap_le
  clear hO1 hgz hb1
  go_wp2
  go_loopw [31] (fun i wr => ∃ k : Nat, k ≤ l.length ∧ i = .int .i64 k ∧ ∃ L : List Int, L.length = l.length ∧ Ow wr w.heap.size A1 c1 L ∧ w2.grownBy wr (rowOf A1)) (fun i _ => l.length - (intOf i).toNat)
  case atStart => exact ⟨0, by omega, rfl, l, rfl, hO2, World.grownBy.refl _ _⟩
  case round =>
    obtain ⟨k, hk, rfl, L, hL, hO, hg⟩ := hrel
    by_cases hlt : k < l.length
    · rcases hO.form with ⟨_, h0, _⟩ | ⟨ga, rfl, _, _⟩
      · rw [h0] at hL; simp at hL; omega
      · have hck := hO.cell (k := k) (by omega)
        have hfz := hO.frozen k
        have hby := hO.1.at k
        have hx := u8_xor255 (atB L k) hby.1 hby.2
        have hS := hO.set k (x := bits .xor .u8 (atB L k) 255) hx.1 hx.2
        have hG : w2.grownBy (wr.setCell ⟨ga, k, none⟩ (.int .u8 (bits .xor .u8 (atB L k) 255))) (some ga) := only_setCell (p := ⟨ga, k, none⟩) hg (.inl rfl) _
        go_wp2
        exact ⟨⟨k + 1, by omega, by go_num, _, by rw [List.length_set]; exact hL, hS, hG⟩, by simp [intOf]; omega⟩
    · obtain rfl : k = l.length := by omega
      clear hO2
      have hrow : ∀ r, rowOf A1 = some r → w.heap.size ≤ r ∧ r < w1.heap.size := by
        intro r hr
        rcases hO.form with ⟨h0, _, _⟩ | ⟨ga, h0, _, _⟩
        · rw [h0] at hr; cases hr
        · rw [h0] at hr; injection hr with hr; subst hr; exact hbl1 _ h0
      have hR3 := hR2.grown hg (by intro r hr; have := hrow r hr; omega)
      have B3 : Below w.heap.size w wr := B2.trans (below_of_grown hg (by omega) (fun r hr => (hrow r hr).1))
      have s3 := hg.size
      have hg3 := hR3.lt
      clear hO hg hR2 B2
      obtain ⟨wa, rfl⟩ : ∃ wa, wa = wr := ⟨wr, rfl⟩
      obtain ⟨L0, hL0⟩ : ∃ L0, L0 = l.take m := ⟨_, rfl⟩
      obtain ⟨L1, hL1⟩ : ∃ L1, L1 = l.drop m := ⟨_, rfl⟩
      have hlen0 : L0.length = m := by rw [hL0, List.length_take]; omega
      have hlen1 : L1.length = l.length - m := by rw [hL1, List.length_drop]
      have hE := bytes_any _ g l 0 m wa hR3 (by omega)
      rw [(tk_n l m hm2).1, (tk_n l m hm2).2.1, (tk_n l m hm2).2.2, ← hL0, ← hL1] at hE
      go_wp2_with fail
      refine hE.mono ?_
      rintro e w4 ⟨Ax, cx, rfl, hO4, hR4, hg4, s4⟩
      have B4 := B3.trans (but_below hg4 (by omega) (by omega))
      have hbA : Bs w4 0 w.heap.size A L0 := by rw [hL0]; exact (h.below B4 (Nat.le_refl _)).take m
      clear hE hR3 B3 hg4
      have hE := equal_any Ax A m m cx c _ _ 0 w.heap.size L0 L0 w4 hlen0 hlen0 hO4.bs hbA (Nat.le_refl _) (by omega) (by omega) (by omega)
      go_wp2_with fail
      refine hE.mono ?_
      rintro e w5 ⟨rfl, hb5⟩
      rw [eqB_self]
      have hO5 := hO4.below hb5 (Nat.le_refl _)
      have hR5 := hR4.below hb5 hR4.lt
      have B5 := B4.trans (hb5.mono (by omega))
      have s5 := hb5.size
      clear hE hO4 hR4 B4 hb5 hbA
      have hO5' := hO5.alloc (.cells #[.int .u8 77] 5)
      have hN5 := Ow.lit w5 [77] #[.int .u8 77] rfl (by decide) (by simp)
      go_wp2_with (at_builtin; refine wpList_append_bs rfl (.tmp 50) (.tmp 51) rfl m cx 1 1 (by rfl) (by rfl) hlen0 rfl hO5' hN5.bs (by omega) (by simp; omega) ?_; intro A9 c9 w6 hO6 hb6 _)
      have hb6' : Below wa.heap.size w5 w6 := ((Below.refl _ w5).alloc (by omega) _).trans hb6
      have hR6 := hR5.below hb6' hg3
      have B6 := B5.trans (hb6'.mono (by omega))
      have hlen9 : (L0 ++ [77]).length = m + 1 := by rw [List.length_append, hlen0]; rfl
      have s6 := hb6'.size
      clear hO5 hO5' hN5 hR5 B5 hb6 hb6'
      go_loopw [55] (fun i wr => ∃ k : Nat, k ≤ m + 1 ∧ i = .int .i64 k ∧ ∃ L : List Int, L.length = m + 1 ∧ Ow wr wa.heap.size A9 c9 L ∧ w6.grownBy wr (rowOf A9)) (fun i _ => m + 1 - (intOf i).toNat)
      case atStart => exact ⟨0, by omega, rfl, _, hlen9, hO6, World.grownBy.refl _ _⟩
      case round =>
        obtain ⟨k, hk, rfl, L, hL, hO, hg⟩ := hrel
        rcases hO.form with ⟨_, h0, _⟩ | ⟨ga, rfl, hga, _⟩
        · rw [h0] at hL; simp at hL
        · by_cases hlt : k < m + 1
          · have hck := hO.cell (k := k) (by omega)
            have hfz := hO.frozen k
            have hby := hO.1.at k
            have hx := u8_xor255 (atB L k) hby.1 hby.2
            have hS := hO.set k (x := bits .xor .u8 (atB L k) 255) hx.1 hx.2
            have hG : w6.grownBy (wr.setCell ⟨ga, k, none⟩ (.int .u8 (bits .xor .u8 (atB L k) 255))) (some ga) := only_setCell (p := ⟨ga, k, none⟩) hg (.inl rfl) _
            clear hO6
            go_wp2
            exact ⟨⟨k + 1, by omega, by go_num, _, by rw [List.length_set]; exact hL, hS, hG⟩, by simp [intOf]; omega⟩
          · obtain rfl : k = m + 1 := by omega
            have hR7 := hR6.grown hg (by intro r hr; (have hr' : ga = r := by simpa [rowOf] using hr); omega)
            have B7 : Below w.heap.size w wr := B6.trans (below_of_grown hg (by omega) (by intro r hr; (have hr' : ga = r := by simpa [rowOf] using hr); omega))
            have s7 := hg.size
            clear hO hg hR6 B6 hO6
            have hlI : ((L1.length : Nat) : Int) = (l.length : Int) - m := by omega
            have hT := tk_n L1 L1.length (Nat.le_refl _)
            rw [List.take_length, List.drop_length, hlI] at hT
            have hE := bytes_any _ g L1 0 ((l.length : Int) - m) wr.drew hR7 (by omega)
            rw [hT.1, hT.2.1, hT.2.2] at hE
            clear hT hlI
            have hszw : w.heap.size ≤ wr.drew.heap.size := B7.size
            have hgw : w.heap.size ≤ g := by omega
            have hwr : IntKind.i64.wrap ((l.length : Int) - m) = (l.length : Int) - m := by rw [IntKind.wrap_i64]; omega
            have hszr : w.heap.size ≤ wr.heap.size := B7.size
            by_cases hcm : c = m
            · have hcm' := Lib.hid hcm
              have hL1n : L1 = [] := List.eq_nil_of_length_eq_zero (by omega)
              go_wp2_with fail
              go_region_held3 (fun w' => Below w.heap.size w w') (first | assumption | exact Below.drew (by assumption)) (first
                | (go_at_call 27; ((with_reducible refine hE.mono ?_); rintro e w8 ⟨A8, c8, rfl, hO8, hR8, hg8, s8⟩; (have B8 : Below w.heap.size w w8 := (Below.drew B7).trans (but_below hg8 hszw hgw)); (have s8' : wr.heap.size ≤ w8.heap.size := s8); (have hbA : Bs w8 0 w.heap.size (A) L1 := by first | (rw [hL1]; exact Bs.nil) | (rw [hL1n]; exact Bs.nil)); (have hE2 := equal_any A8 (A) (l.length - m) (l.length - m) c8 (0) _ _ 0 w.heap.size L1 L1 w8 hlen1 hlen1 hO8.bs hbA (Nat.le_refl _) (by omega) (by omega) (by omega)); rw [eqB_self] at hE2))
                | (go_at_call 22; ((with_reducible refine hE2.mono ?_); rintro e w9 ⟨rfl, hb9⟩; (have hR9 := hR8.below hb9 hR8.lt); (have B9 := B8.trans (hb9.mono (by omega))); (have s9 := hb9.size); (have hE3 := left_any _ g [] 0 w9 hR9); (have hE4 := err_any _ g [] 0 w9 hR9); (have hE5 := awake_any w9)))
                | (go_at_call 18; ((with_reducible refine hE3.mono ?_); rintro e w10 ⟨rfl, rfl⟩))
                | (go_at_call 19; ((with_reducible refine hE4.mono ?_); rintro e w10 ⟨rfl, rfl⟩))
                | (go_at_call 13; ((with_reducible refine hE5.mono ?_); rintro e w10 ⟨rfl, hb10⟩; (have B10 := B9.trans (hb10.mono (by omega))))))
              go_wp2
              go_ret
              exact ⟨rfl, by assumption⟩
            · skip
              go_wp2_with fail
              go_region_held3 (fun w' => Below w.heap.size w w') (first | assumption | exact Below.drew (by assumption)) (first
                | (go_at_call 27; ((with_reducible refine hE.mono ?_); rintro e w8 ⟨A8, c8, rfl, hO8, hR8, hg8, s8⟩; (have B8 : Below w.heap.size w w8 := (Below.drew B7).trans (but_below hg8 hszw hgw)); (have s8' : wr.heap.size ≤ w8.heap.size := s8); (have hbA : Bs w8 0 w.heap.size (A.map (·.add m)) L1 := by first | (rw [hL1]; exact (h.below B8 (Nat.le_refl _)).dropm m) | (rw [hL1n]; exact (h.below B8 (Nat.le_refl _)).dropm m)); (have hE2 := equal_any A8 (A.map (·.add m)) (l.length - m) (l.length - m) c8 (c - m) _ _ 0 w.heap.size L1 L1 w8 hlen1 hlen1 hO8.bs hbA (Nat.le_refl _) (by omega) (by omega) (by omega)); rw [eqB_self] at hE2))
                | (go_at_call 22; ((with_reducible refine hE2.mono ?_); rintro e w9 ⟨rfl, hb9⟩; (have hR9 := hR8.below hb9 hR8.lt); (have B9 := B8.trans (hb9.mono (by omega))); (have s9 := hb9.size); (have hE3 := left_any _ g [] 0 w9 hR9); (have hE4 := err_any _ g [] 0 w9 hR9); (have hE5 := awake_any w9)))
                | (go_at_call 18; ((with_reducible refine hE3.mono ?_); rintro e w10 ⟨rfl, rfl⟩))
                | (go_at_call 19; ((with_reducible refine hE4.mono ?_); rintro e w10 ⟨rfl, rfl⟩))
                | (go_at_call 13; ((with_reducible refine hE5.mono ?_); rintro e w10 ⟨rfl, hb10⟩; (have B10 := B9.trans (hb10.mono (by omega))))))
              go_wp2
              go_ret
              exact ⟨rfl, by assumption⟩
theorem apartLaw (A : Option Addr) (c : Nat) (l : List Int) (n : Int) (w : World) (h : Bs w 0 w.heap.size A l) (hlc : l.length ≤ c) (hnil : A = none → l.length = 0 ∧ c = 0) (hc63 : c ≤ 140737488351232) (hn : -9223372036854775808 ≤ n ∧ n ≤ 9223372036854775807) :
    Calls Try.prog 10 #[.slice A l.length c, .int .i64 n] w fun e w' => e = .returned (.bool true) ∧ Below w.heap.size w w' := by
  rcases Nat.lt_or_ge 5000 l.length with hl | hl
  · exact apartLaw_long A c l n w hl (by omega)
  · exact apartLaw_short A c l n w h hlc hnil hc63 hl hn
namespace lawApart
set_option maxRecDepth 100000 in
theorem lifted (os : Os) (started : os.Started) (H : Type) (enc : TypeId × Value → H) :
    ReturnsInHanded {} Try.checked os 10 .any (Rows.wireApartSpec.pre6 enc Try.prog Try.f10 Rows.wireApartRow.domain false) (Rows.wireApartSpec.post enc Try.prog Try.f10 false true false false) := by
  refine returnsInHanded_of_change_sized (C := Try.checked) own started (by kernel_rfl) Try.func10
    (ChangeSpec.witness6 (enc := enc) (C := Try.checked) false ⟨#[], #[.slice none 0 0, .int .i64 0], []⟩ 8 (by kernel_rfl) (by kernel_rfl) (by kernel_rfl) (by kernel_rfl)) ?_
  intro W base args ds gs before hval0 hW hcnd hsz0 _
  have hval : ∀ (j : Nat) t v, Try.f10.params[j]? = some t → args[j]? = some v → Value.okWide Try.prog W .any base t v := hval0
  have hW' := hW
  obtain ⟨p, q, hA0, hV, rfl, hfz, hnd⟩ := hW
  have hA : DataW.TrodAll enc Try.prog W 0 (fun _ => true) true Try.f10.params.toList args.toList ds p := hA0
  have hsz : (DataW.weightsEach Try.prog (Try.f10.params.toList ++ Rows.wireApartSpec.plain.varTypes Try.prog) (ds ++ gs)).all (· ≤ reachBytes) = true := hsz0
  rw [Try.params10] at hA hval hsz
  obtain ⟨rfl, rfl⟩ := trodVars_none hV
  obtain ⟨v0, v1, d0, d1, p0, p1, rfl, rfl, rfl, h0, h1⟩ := trodAll_two hA
  obtain ⟨A, m, c, l, rfl, hn_l, hB_l, hc_l, hnil_l, hs_l⟩ := open_bs (hval 0 22 v0 rfl rfl) h0
  have hr_l := hs_l hsz (j := 0) rfl rfl
  subst hn_l
  obtain ⟨n, rfl, rfl, rfl, wf_n⟩ := open_int Try.underlying3 (hval 1 3 v1 rfl rfl) h1
  refine (apartLaw A c l n W hB_l hc_l hnil_l hr_l (bounds_i64 wf_n)).mono fun e W' ⟨he, hb⟩ => ?_
  subst he
  revert hb
  simp only [List.append_nil] at hW'
  intro hb
  exact ⟨_, rfl, law_post (tb := 4) laidOut Try.underlying4 rfl (by rw [Try.params10]; intro t ht; revert ht; revert t; exact of_decide_eq_true (by kernel_rfl)) rfl rfl rfl rfl hW' hb⟩
theorem over : Rows.wireApartRow.holds Try.pinned (OpenSpec.ofChange Rows.wireApartSpec) :=
  OpenClaim.holds_of_wide 10 Try.f10 rfl rfl rfl rfl rfl rfl rfl ⟨rfl, rfl, rfl, rfl, rfl⟩ rfl rfl rfl rfl rfl (by kernel_rfl) Try.func10 (by kernel_rfl)
    (of_decide_eq_true (by kernel_rfl)) (by unfold Func.isWrapper; first | (rw [if_pos (by decide +kernel)]; kernel_rfl) | (rw [if_neg (by decide +kernel)]; exact ⟨rfl, rfl⟩))
    (fun os started H enc _ => lifted os started H enc)
theorem proved : Rows.WireApartSaid :=
  over
#print axioms proved
end lawApart
end Go.Proofs.Ytaioikmgimffjaa
