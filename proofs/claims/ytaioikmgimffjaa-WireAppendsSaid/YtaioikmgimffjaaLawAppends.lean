/- WireAppends (P2.1, P2.7): for every input the law returns true, and its arguments read afterwards as before. No condition. -/
import Derived.Test.YtaioikmgimffjaaWireAwake
import Derived.Test.YtaioikmgimffjaaRReader
import Derived.Test.YtaioikmgimffjaaOpen
namespace Go.Proofs.Ytaioikmgimffjaa
open Go.ChangeShapes Go.WideShapes Go.ChangeAt Go.RowKit Go.Joins
set_option linter.unusedSimpArgs false
set_option linter.unusedVariables false
theorem appendsLaw_long (A : Option Addr) (c : Nat) (l : List Int) (n s : Int) (w : World) (hl : 5000 < l.length) (hl2 : l.length ≤ 140737488351232) :
    Calls Try.prog 5 #[.slice A l.length c, .int .u64 n, .int .i64 s] w fun e w' => e = .returned (.bool true) ∧ Below w.heap.size w w' := by
  have hl' : (5000 : Int) < l.length := by omega
  go_enter Try.func5, Try.ntmps5
  go_wp2_with fail
  refine (awake_any _).mono ?_
  rintro e w1 ⟨rfl, hb⟩
  go_wp2
  go_ret
  exact ⟨rfl, hb⟩
abbrev nines : List Int := [9, 9, 9, 9, 9, 9, 9, 9]
abbrev ninesC : Array Value := #[.int .u8 9, .int .u8 9, .int .u8 9, .int .u8 9, .int .u8 9, .int .u8 9, .int .u8 9, .int .u8 9]
set_option maxHeartbeats 1000000 in
theorem appendsLaw_ok (A : Option Addr) (c : Nat) (l : List Int) (n : Int) (s : Nat) (w : World) (h : Bs w 0 w.heap.size A l) (hlc : l.length ≤ c) (hnil : A = none → l.length = 0 ∧ c = 0) (hl : l.length ≤ 5000)
    (hn : 0 ≤ n ∧ n < 18446744073709551616) (hs1 : 1 ≤ s) (hs8 : s ≤ 8) (hf : n < 256 ^ s) :
    Calls Try.prog 5 #[.slice A l.length c, .int .u64 n, .int .i64 s] w fun e w' => e = .returned (.bool true) ∧ Below w.heap.size w w' := by
  have hl' : (l.length : Int) ≤ 5000 := by omega
  have hx := bytesB_length s n
  go_enter Try.func5, Try.ntmps5
  go_wp2_with fail
  refine (clone_any A l.length c 0 w.heap.size l w rfl h (Nat.le_refl _) (by omega) hnil).mono ?_
  rintro e w1 ⟨A1, c1, rfl, hO1, s1, hb1⟩
  have hN1 := Ow.lit w1 nines ninesC rfl (by decide) (by simp)
  have hO1' := hO1.alloc (.cells ninesC 5)
  go_wp2_with (at_builtin; refine wpList_append_bs rfl (.tmp 18) (.tmp 19) rfl l.length c1 8 8 (by rfl) (by rfl) rfl rfl hO1' hN1.bs (by omega) (by simp; omega) ?_; intro A2 c2 w2 hO2 hb2 _; (have hc2 : l.length + 8 ≤ c2 := by (have := hO2.cap_le); simpa using this); clear hN1 hO1' hO1)
  have B2 : Below w.heap.size w w2 := (hb1.alloc s1 _).trans hb2
  have s2 := B2.size
  have hA2 := hO2.blt
  have hT : (l ++ nines).take l.length = l := List.take_left' rfl
  have hD : (l ++ nines).drop l.length = nines := List.drop_left' rfl
  have hB2 : Bs w2 w.heap.size w2.heap.size A2 l := by have := hO2.bs.take l.length; rwa [hT] at this
  clear hb1 hb2 s1
  refine (append_ok A2 l.length c2 w.heap.size w2.heap.size l n s w2 rfl hB2 (Nat.le_refl _) (by omega) hn hs1 hs8 hf).mono ?_
  rintro e w3 ⟨rfl, hO3, z3, hb3⟩
  have s3 : w2.heap.size < w3.heap.size := by omega
  clear z3 hB2
  have hW3 := hO2.below hb3 (Nat.le_refl _)
  have B3 := B2.trans (hb3.mono s2)
  clear hO2 B2
  go_wp2_with fail
  refine (rappend_ok A l.length c 0 w.heap.size l n s w3 rfl (h.below B3 (Nat.le_refl _)) (by omega) (by omega) hn hs1 hs8 hf).mono ?_
  rintro e w4 ⟨A4, c4, rfl, hO4, s4, hb4⟩
  have hL4 := hO3.below hb4 (Nat.le_refl _)
  have hW4 := hW3.below hb4 (Nat.le_refl _)
  have B4 := B3.trans (hb4.mono (by omega))
  clear hW3 B3 hO3
  go_wp2_with fail
  refine (equal_any (some ⟨w2.heap.size, 0, none⟩) A4 (l.length + s) (l.length + s) _ c4 _ _ _ _ (l ++ bytesB s n) (l ++ bytesB s n) w4 (by rw [List.length_append, hx]) (by rw [List.length_append, hx]) hL4.bs hO4.bs (Nat.le_refl _) (Nat.le_refl _) (by omega) (by omega)).mono ?_
  rintro e w5 ⟨rfl, hb5⟩
  rw [eqB_self]
  have hL5 := hL4.below hb5 (Nat.le_refl _)
  have hW5 := hW4.below hb5 (Nat.le_refl _)
  have B5 := B4.trans (hb5.mono (by omega))
  have s5 := hb5.size
  clear hL4 hW4 B4 hO4 hb5 hb4
  have hB5 : Bs w5 w.heap.size w5.heap.size A2 l := by have := hW5.bs.take l.length; rwa [hT] at this
  go_wp2_with fail
  refine (equal_any A2 A l.length l.length c2 c _ _ 0 w.heap.size l l w5 rfl rfl hB5 (h.below B5 (Nat.le_refl _)) (Nat.le_refl _) (by omega) (by omega) (by omega)).mono ?_
  rintro e w6 ⟨rfl, hb6⟩
  rw [eqB_self]
  have hL6 := hL5.below hb6 (Nat.le_refl _)
  have hW6 := hW5.below hb6 (Nat.le_refl _)
  have B6 := B5.trans (hb6.mono (by omega))
  have s6 := hb6.size
  clear hL5 hW5 B5 hb6 hB5
  have hN6 := Ow.lit w6 nines ninesC rfl (by decide) (by simp)
  have hB6 : Bs (w6.alloc (.cells ninesC 5)) w.heap.size w6.heap.size (A2.map (·.add l.length)) nines := by have := (hW6.bs.dropm l.length).alloc (Nat.le_refl _) (.cells ninesC 5); rwa [hD] at this
  go_wp2_with fail
  have hE := equal_any (A2.map (·.add l.length)) (some ⟨w6.heap.size, 0, none⟩) 8 8 (c2 - l.length) 8 _ _ _ _ nines nines (w6.alloc (.cells ninesC 5)) rfl rfl hB6 hN6.bs (by simp) (Nat.le_refl _) (by omega) (by omega)
  refine hE.mono ?_
  clear hE
  rintro e w7 ⟨rfl, hb7⟩
  rw [eqB_self]
  simp only [World.size_alloc] at hb7
  have hb7' : Below w6.heap.size w6 w7 := ((Below.refl _ w6).alloc (Nat.le_refl _) _).trans (hb7.mono (by omega))
  have hL7 := hL6.below hb7' (Nat.le_refl _)
  have hW7 := hW6.below hb7' (Nat.le_refl _)
  have B7 := B6.trans (hb7'.mono (by omega))
  have s7 := hb7'.size
  clear hL6 hW6 B6 hb7 hb7' hN6 hB6
  go_wp2
  go_loopw [67] (fun i wr => ∃ k : Nat, k ≤ l.length + s ∧ i = .int .i64 k ∧ ∃ L : List Int, L.length = l.length + s ∧ Ow wr w2.heap.size (some ⟨w2.heap.size, 0, none⟩) (l.length + s) L ∧ w7.grownBy wr (some w2.heap.size)) (fun i _ => l.length + s - (intOf i).toNat)
  case atStart => exact ⟨0, by omega, rfl, l ++ bytesB s n, by rw [List.length_append, hx], hL7, World.grownBy.refl _ _⟩
  case round =>
    obtain ⟨k, hk, rfl, L, hL, hO, hg⟩ := hrel
    by_cases hlt : k < l.length + s
    · have hck := hO.cell (k := k) (by omega)
      have hfz := hO.frozen k
      have hby := hO.1.at k
      have hS := hO.set k (x := (atB L k + 1) % 256) (by omega) (by omega)
      have hw : IntKind.u8.wrap (atB L k + 1) = (atB L k + 1) % 256 := IntKind.wrap_u8 _
      go_wp2
      have hS2 := (but_set (w := wr) (g := w2.heap.size) (i := k) (.int .u8 ((atB L k + 1) % 256)))
      have hG : w7.grownBy (wr.setCell ⟨w2.heap.size, k, none⟩ (.int .u8 ((atB L k + 1) % 256))) (some w2.heap.size) := only_setCell hg (.inl rfl) _
      exact ⟨⟨k + 1, by omega, by go_num, _, by rw [List.length_set]; exact hL, hS, hG⟩, by simp [intOf]; omega⟩
    · obtain rfl : k = l.length + s := by omega
      have hW8 := hW7.grown hg (by intro x hx e; injection e with e; have := (hA2 x hx).2; omega)
      have B8 : Below w.heap.size w wr := B7.trans (below_of_grown hg (by omega) (by simp; omega))
      have s8 := hg.size
      have hB8 : Bs wr w.heap.size wr.heap.size A2 l := by have := hW8.bs.take l.length; rwa [hT] at this
      have hE := equal_any A2 A l.length l.length c2 c _ _ 0 w.heap.size l l wr rfl rfl hB8 (h.below B8 (Nat.le_refl _)) (Nat.le_refl _) (by omega) (by omega) (by omega)
      clear hO hL7 hW7 B7 hg
      go_wp2_with fail
      refine hE.mono ?_
      rintro e w9 ⟨rfl, hb9⟩
      rw [eqB_self]
      have B9 := B8.trans (hb9.mono (by omega))
      have hE2 := awake_any w9
      go_wp2_with fail
      refine hE2.mono ?_
      rintro e w10 ⟨rfl, hb10⟩
      have B10 := B9.trans (hb10.mono (by have := B9.size; omega))
      go_wp2
      go_ret
      exact ⟨rfl, B10⟩
set_option maxHeartbeats 1000000 in
theorem appendsLaw_err (A : Option Addr) (c : Nat) (l : List Int) (n s : Int) (w : World) (h : Bs w 0 w.heap.size A l) (hlc : l.length ≤ c) (hnil : A = none → l.length = 0 ∧ c = 0) (hl : l.length ≤ 5000)
    (hn : 0 ≤ n ∧ n < 18446744073709551616) (he : apE n s ≠ 0) :
    Calls Try.prog 5 #[.slice A l.length c, .int .u64 n, .int .i64 s] w fun e w' => e = .returned (.bool true) ∧ Below w.heap.size w w' := by
  have hl' : (l.length : Int) ≤ 5000 := by omega
  go_enter Try.func5, Try.ntmps5
  go_wp2_with fail
  refine (clone_any A l.length c 0 w.heap.size l w rfl h (Nat.le_refl _) (by omega) hnil).mono ?_
  rintro e w1 ⟨A1, c1, rfl, hO1, s1, hb1⟩
  have hN1 := Ow.lit w1 nines ninesC rfl (by decide) (by simp)
  have hO1' := hO1.alloc (.cells ninesC 5)
  go_wp2_with (at_builtin; refine wpList_append_bs rfl (.tmp 18) (.tmp 19) rfl l.length c1 8 8 (by rfl) (by rfl) rfl rfl hO1' hN1.bs (by omega) (by simp; omega) ?_; intro A2 c2 w2 hO2 hb2 _; (have hc2 : l.length + 8 ≤ c2 := by (have := hO2.cap_le); simpa using this); clear hN1 hO1' hO1)
  have B2 : Below w.heap.size w w2 := (hb1.alloc s1 _).trans hb2
  have s2 := B2.size
  have hT : (l ++ nines).take l.length = l := List.take_left' rfl
  have hD : (l ++ nines).drop l.length = nines := List.drop_left' rfl
  clear hb1 hb2 s1
  have hE := append_err A2 c2 l.length n s w2 (by omega) hn he
  refine hE.mono ?_
  rintro e w3 ⟨rfl, rfl⟩
  clear hE
  have hE := rappend_err A c l.length n s w2 (by omega) hn he
  go_wp2_with fail
  refine hE.mono ?_
  rintro e w3 ⟨rfl, rfl⟩
  clear hE
  have hE := equal_any none none 0 0 0 0 0 0 0 0 [] [] w2 rfl rfl Bs.nil Bs.nil (by omega) (by omega) (by omega) (by omega)
  go_wp2_with fail
  refine hE.mono ?_
  rintro e w5 ⟨rfl, hb5⟩
  rw [eqB_self]
  have hW5 := hO2.below hb5 (Nat.le_refl _)
  have B5 := B2.trans (hb5.mono (by omega))
  have s5 := hb5.size
  clear hE hO2 B2 hb5
  have hB5 : Bs w5 w.heap.size w5.heap.size A2 l := by have := hW5.bs.take l.length; rwa [hT] at this
  have hE := equal_any A2 A l.length l.length c2 c _ _ 0 w.heap.size l l w5 rfl rfl hB5 (h.below B5 (Nat.le_refl _)) (Nat.le_refl _) (by omega) (by omega) (by omega)
  go_wp2_with fail
  refine hE.mono ?_
  rintro e w6 ⟨rfl, hb6⟩
  rw [eqB_self]
  have hW6 := hW5.below hb6 (Nat.le_refl _)
  have B6 := B5.trans (hb6.mono (by omega))
  have s6 := hb6.size
  clear hE hW5 B5 hb6 hB5
  have hN6 := Ow.lit w6 nines ninesC rfl (by decide) (by simp)
  have hB6 : Bs (w6.alloc (.cells ninesC 5)) w.heap.size w6.heap.size (A2.map (·.add l.length)) nines := by have := (hW6.bs.dropm l.length).alloc (Nat.le_refl _) (.cells ninesC 5); rwa [hD] at this
  have hE := equal_any (A2.map (·.add l.length)) (some ⟨w6.heap.size, 0, none⟩) 8 8 (c2 - l.length) 8 _ _ _ _ nines nines (w6.alloc (.cells ninesC 5)) rfl rfl hB6 hN6.bs (by simp) (Nat.le_refl _) (by omega) (by omega)
  go_wp2_with fail
  refine hE.mono ?_
  rintro e w7 ⟨rfl, hb7⟩
  rw [eqB_self]
  simp only [World.size_alloc] at hb7
  have hb7' : Below w6.heap.size w6 w7 := ((Below.refl _ w6).alloc (Nat.le_refl _) _).trans (hb7.mono (by omega))
  have hW7 := hW6.below hb7' (Nat.le_refl _)
  have B7 := B6.trans (hb7'.mono (by omega))
  have s7 := hb7'.size
  clear hE hW6 B6 hb7 hb7' hN6 hB6
  go_wp2
  go_loopw [67] (fun i wr => i = .int .i64 0 ∧ wr = w7) (fun i _ => 0)
  case atStart => exact ⟨rfl, rfl⟩
  case round =>
    obtain ⟨rfl, rfl⟩ := hrel
    have hB8 : Bs wr w.heap.size wr.heap.size A2 l := by have := hW7.bs.take l.length; rwa [hT] at this
    have hE := equal_any A2 A l.length l.length c2 c _ _ 0 w.heap.size l l wr rfl rfl hB8 (h.below B7 (Nat.le_refl _)) (Nat.le_refl _) (by omega) (by omega) (by omega)
    go_wp2_with fail
    refine hE.mono ?_
    rintro e w9 ⟨rfl, hb9⟩
    rw [eqB_self]
    have B9 := B7.trans (hb9.mono (by omega))
    have hE2 := awake_any w9
    go_wp2_with fail
    refine hE2.mono ?_
    rintro e w10 ⟨rfl, hb10⟩
    have B10 := B9.trans (hb10.mono (by have := B9.size; omega))
    go_wp2
    go_ret
    exact ⟨rfl, B10⟩
theorem appendsLaw (A : Option Addr) (c : Nat) (l : List Int) (n s : Int) (w : World) (h : Bs w 0 w.heap.size A l) (hlc : l.length ≤ c) (hnil : A = none → l.length = 0 ∧ c = 0) (hc : c ≤ 140737488351232)
    (hn : 0 ≤ n ∧ n ≤ 18446744073709551615) :
    Calls Try.prog 5 #[.slice A l.length c, .int .u64 n, .int .i64 s] w fun e w' => e = .returned (.bool true) ∧ Below w.heap.size w w' := by
  rcases Nat.lt_or_ge 5000 l.length with hl | hl
  · exact appendsLaw_long A c l n s w hl (by omega)
  · by_cases he : apE n s = 0
    · have hs : 1 ≤ s ∧ s ≤ 8 := Classical.byContradiction fun hs => by rw [apE_2 hs] at he; omega
      obtain ⟨m, rfl⟩ : ∃ m : Nat, s = m := ⟨s.toNat, by omega⟩
      have hf : n < 256 ^ m := Classical.byContradiction fun hf => by rw [apE_3 (by omega) hf] at he; omega
      exact appendsLaw_ok A c l n m w h hlc hnil hl (by omega) (by omega) (by omega) hf
    · exact appendsLaw_err A c l n s w h hlc hnil hl (by omega) he
namespace lawAppends
set_option maxRecDepth 100000 in
theorem lifted (os : Os) (started : os.Started) (H : Type) (enc : TypeId × Value → H) :
    ReturnsInHanded {} Try.checked os 5 .any (Rows.wireAppendsSpec.pre6 enc Try.prog Try.f5 Rows.wireAppendsRow.domain false) (Rows.wireAppendsSpec.post enc Try.prog Try.f5 false true false false) := by
  refine returnsInHanded_of_change_sized (C := Try.checked) own started (by kernel_rfl) Try.func5
    (ChangeSpec.witness6 (enc := enc) (C := Try.checked) false ⟨#[], #[.slice none 0 0, .int .u64 0, .int .i64 0], []⟩ 8 (by kernel_rfl) (by kernel_rfl) (by kernel_rfl) (by kernel_rfl)) ?_
  intro W base args ds gs before hval0 hW hcnd hsz0 _
  have hval : ∀ (j : Nat) t v, Try.f5.params[j]? = some t → args[j]? = some v → Value.okWide Try.prog W .any base t v := hval0
  have hW' := hW
  obtain ⟨p, q, hA0, hV, rfl, hfz, hnd⟩ := hW
  have hA : DataW.TrodAll enc Try.prog W 0 (fun _ => true) true Try.f5.params.toList args.toList ds p := hA0
  have hsz : (DataW.weightsEach Try.prog (Try.f5.params.toList ++ Rows.wireAppendsSpec.plain.varTypes Try.prog) (ds ++ gs)).all (· ≤ reachBytes) = true := hsz0
  rw [Try.params5] at hA hval hsz
  obtain ⟨rfl, rfl⟩ := trodVars_none hV
  obtain ⟨v0, v1, v2, d0, d1, d2, p0, p1, p2, rfl, rfl, rfl, h0, h1, h2⟩ := trodAll_three hA
  obtain ⟨A, m, c, l, rfl, hn_l, hB_l, hc_l, hnil_l, hs_l⟩ := open_bs (hval 0 22 v0 rfl rfl) h0
  have hr_l := hs_l hsz (j := 0) rfl rfl
  subst hn_l
  obtain ⟨n, rfl, rfl, rfl, wf_n⟩ := open_int Try.underlying23 (hval 1 23 v1 rfl rfl) h1
  obtain ⟨s, rfl, rfl, rfl, wf_s⟩ := open_int Try.underlying3 (hval 2 3 v2 rfl rfl) h2
  refine (appendsLaw A c l n s W hB_l hc_l hnil_l hr_l (bounds_u64 wf_n)).mono fun e W' ⟨he, hb⟩ => ?_
  subst he
  revert hb
  simp only [List.append_nil] at hW'
  intro hb
  exact ⟨_, rfl, law_post (tb := 4) laidOut Try.underlying4 rfl (by rw [Try.params5]; intro t ht; revert ht; revert t; exact of_decide_eq_true (by kernel_rfl)) rfl rfl rfl rfl hW' hb⟩
theorem over : Rows.wireAppendsRow.holds Try.pinned (OpenSpec.ofChange Rows.wireAppendsSpec) :=
  OpenClaim.holds_of_wide 5 Try.f5 rfl rfl rfl rfl rfl rfl rfl ⟨rfl, rfl, rfl, rfl, rfl⟩ rfl rfl rfl rfl rfl (by kernel_rfl) Try.func5 (by kernel_rfl)
    (of_decide_eq_true (by kernel_rfl)) (by unfold Func.isWrapper; first | (rw [if_pos (by decide +kernel)]; kernel_rfl) | (rw [if_neg (by decide +kernel)]; exact ⟨rfl, rfl⟩))
    (fun os started H enc _ => lifted os started H enc)
theorem proved : Rows.WireAppendsSaid :=
  over
#print axioms proved
end lawAppends
end Go.Proofs.Ytaioikmgimffjaa
